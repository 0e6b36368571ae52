/-
  Proved here, ahead of the law: DeskAnswers: the law returns true for every input, and leaves its arguments as they were.
-/
import Derived.Test.YtaebeemnipafbaaGreatDoorOpenH
import Derived.Test.YtaebeemnipafbaaGreatDoorLaw
import Derived.Test.YtaebeemnipafbaaGreatDoorLawB
import Derived.Test.YtaebeemnipafbaaGreatDoorSq
import Derived.Test.YtaebeemnipafbaaGreatDoorHead
import Derived.Test.YtaebeemnipafbaaGreatDoorPkDeskAnswersA
import Derived.Test.YtaebeemnipafbaaGreatDoorNamePlain
import Derived.Test.YtaebeemnipafbaaGreatDoorEl
import Derived.Test.YtaebeemnipafbaaGreatDoorMapPlain
import Derived.Sort.Statements
import Derived.Lib.SlBy
import Derived.Test.YtaebeemnipafbaaGreatDoorRefSum
import Derived.Deep.DeepCutAuto
import Derived.Deep.RegionWith
import Derived.Test.YtaebeemnipafbaaGreatDoorMac
import Derived.Test.YtaebeemnipafbaaGreatDoorTree
import Derived.Test.YtaebeemnipafbaaGreatDoorErr
import Derived.Test.YtaebeemnipafbaaGreatDoorSkip
import Derived.Test.YtaebeemnipafbaaGreatDoorShelf
import Derived.Test.YtaebeemnipafbaaGreatDoorLawC
import Derived.Test.YtaebeemnipafbaaGreatDoorOpenB
import Derived.Test.YtaebeemnipafbaaGreatDoorLawD
import Derived.Test.YtaebeemnipafbaaGreatDoorLawE
import Derived.Lib.AppendZerosOnto
import Derived.Test.YtaebeemnipafbaaGreatDoorRefPlain
import Derived.Test.YtaebeemnipafbaaGreatDoorRefWord
import Derived.Deep.LoopGhost
import Derived.Laws.IdiomStrings
import Derived.Test.YtaebeemnipafbaaGreatDoorLeafs
import Derived.Shelf.SlSortCmp.WholeK
import Derived.Shelf.SlSortCmp.NoneTotal
import Derived.Lib.SliceRun
import Derived.Test.YtaebeemnipafbaaGreatDoorSha
import Derived.Test.YtaebeemnipafbaaGreatDoorLogPlain
import Derived.Test.YtaebeemnipafbaaGreatDoorRefNum
import Derived.Test.YtaebeemnipafbaaGreatDoorStrEq
import Derived.Test.YtaebeemnipafbaaGreatDoorDrawT
set_option linter.unusedSimpArgs false
set_option linter.unusedVariables false
set_option maxRecDepth 100000
set_option maxHeartbeats 200000000
namespace Go.Proofs.YtaebeemnipafbaaGreatDoor
section
open Go.RowKit
def J7 (n : Int) (d : Dig) : Array Value := (.int .i64 n :: d.arr.toList).toArray
theorem Jq (n : Int) (d : Dig) : (J7 n d).size = 33 := by simp [J7, Dig.size]
theorem NG (n : Int) (d : Dig) : (J7 n d).toList = .int .i64 n :: d.arr.toList := rfl
theorem MF {n : Int} {d : Dig} : (J7 n d)[0]? = some (.int .i64 n) := rfl
theorem NH (n : Int) (d : Dig) : ∀ u ∈ (J7 n d).toList, u.oneCell' = true := by
 intro u hu
 rw [NG] at hu
 rcases List.mem_cons.1 hu with rfl | hu
 ·rfl
 ·rw [Dig.toList] at hu
  exact GX u hu
theorem prArr_all (n : Int) (d : Dig) : (J7 n d).all (·.oneCell') = true := Array.all_eq_true_iff_forall_mem.2 fun u hu => NH n d u (Array.mem_toList_iff.2 hu)
theorem prArr_range {W : World} {g t : Nat} {n : Int} {d : Dig} {fr : Nat × Nat} (h : W.heap[g]? = some (.cells (J7 n d) t fr)) : W.rangeAt g 1 d.arr.toList :=
 Jk h (fun j v hv => by
  have : (J7 n d)[1 + j]? = (J7 n d).toList[1 + j]? := (Array.getElem?_toList ..).symm
  rw [this, NG, Nat.add_comm, List.getElem?_cons_succ]
  exact hv)
theorem pairsL_app (a b : List (Int × Dig)) : Nj (a ++ b) = Nj a ++ Nj b := by simp [Nj]
theorem pairsL_one (n : Int) (d : Dig) : Nj [(n, d)] = (J7 n d).toList := by simp [Nj, NG]
theorem pairs_at (ss : List (Int × Dig)) (i : Nat) (h : i < ss.length) : ((Nj ss).drop ((i : Int).toNat * 33)).take 33 = (J7 ss[i].1 ss[i].2).toList := by
 have e : ss = ss.take i ++ ([(ss[i].1, ss[i].2)] ++ ss.drop (i + 1)) := by
  rw [List.singleton_append, ← List.drop_eq_getElem_cons h, List.take_append_drop]
 conv => lhs; rw [e]
 have hl : (Nj (ss.take i)).length = (i : Int).toNat * 33 := by rw [length_pairsL, List.length_take, Nat.min_eq_left (by omega)]; rfl
 rw [pairsL_app, List.drop_left' hl, pairsL_app, pairsL_one, List.take_left' (by rw [Array.length_toList, Jq])]
section
variable {P : Program} {ops : Array Oper} {rest : List Oper} {o : Oper} {a : Act} {W : World} {Q : Exit → Act → World → Prop} {d : Option Tmp}
theorem L_buildP (hd : o.dst = d) (hw : Region.wanted o (yielded ops a.tmps) = true) {T : TypeId} {x y : Operand} (ho : o.op = .build T #[(0, x), (1, y)]) {f0 f1 : Field} (hu : P.underlying T = some (.struct #[f0, f1])) {z0 z1 : Value} {b0 b1 : Nat} (h0 : GW P f0.type z0 1 b0) (h1 : GW P f1.type z1 32 b1) (o0 : f0.offset = 0) (o1 : f1.offset = 1)
  {cs : Array Value} {b : Nat} (he : GW P T (.agg cs) 33 b) (hcs : cs.size = 33) {n : Int} {q : Dig} (hx : a.eval x = .int .i64 n) (hy : a.eval y = .agg q.arr)
  (h : wpList P ops Q rest (a.put d (.agg (J7 n q))) W) : wpList P ops Q (o :: rest) a W := by
 refine Js hd hw ?_ h
 have hq : q.arr.size = 32 := Dig.size q
 have hf := P2 q.arr.toList 0 1 (cs.setIfInBounds 0 (.int .i64 n)) (by simp [hcs, hq])
 have hz : (q.arr.zipIdx.foldl (fun cs x => match x with | (c, j) => cs.setIfInBounds (1 + j) c) (cs.setIfInBounds 0 (.int .i64 n))) = Jg (cs.setIfInBounds 0 (.int .i64 n)) 1 q.arr.toList := by
  rw [← Array.foldl_toList, Array.toList_zipIdx]
  simpa using hf
 have hp : Jg (cs.setIfInBounds 0 (.int .i64 n)) 1 q.arr.toList = J7 n q := by
  obtain ⟨l⟩ := cs
  match l, hcs with
  | c :: l, hcs =>
   have hl : l.length = 32 := by simpa using hcs
   unfold Jg J7
   simp [hq]
   omega
 rw [hp] at hz
 have hz' : (q.arr.zipIdx.foldl (fun cs x => cs.setIfInBounds (1 + x.2) x.1) (cs.setIfInBounds 0 (.int .i64 n))) = J7 n q := hz
 rw [show q.arr.zipIdx.size = 32 by simp [hq]] at hz'
 unfold execOp
 simp only [ho]
 have hfill : Instr.fill (fun x => ([(0, 1), (1, 32)] : List (Nat × Nat))[x]?) cs [(0, .int .i64 n), (1, .agg q.arr)] = some (J7 n q) := by
  have e1 : ¬ (cs.size < 1) := by omega
  simp [Instr.fill, Value.cells, hq, hcs, hz']
 simp [Instr.build, he.run_zero, run_underlying hu, Value.cells, hx, hy, h0.run_size, h1.run_size, o0, o1]
 rw [hfill]
 rfl
end
end
section
open Go.RowKit
theorem PF {W : World} {g t : Nat} {cs : Array Value} {fr : Nat × Nat} (h : W.heap[g]? = some (.cells cs t fr)) (pre l post : List Value) (hl : cs.toList = pre ++ (l ++ post)) {off : Nat} (ho : pre.length = off) : W.rangeAt g off l :=
 MS h (fun j v hv => by
  have hj := (List.getElem?_eq_some_iff.1 hv).1
  rw [hl, ← ho, List.getElem?_append_right (by omega), show pre.length + j - pre.length = j by omega, List.getElem?_append_left hj]
  exact hv)
theorem Ps {cs : Array Value} (pre : List Value) (v : Value) (post : List Value) (hl : cs.toList = pre ++ (v :: post)) {off : Nat} (ho : pre.length = off) : cs[off]? = some v := by
 rw [← Array.getElem?_toList, hl, ← ho, List.getElem?_append_right (Nat.le_refl _), Nat.sub_self]
 rfl
theorem set_part {cs ds : Array Value} (pre : List Value) (v u : Value) (post : List Value) (hl : cs.toList = pre ++ (v :: post)) (hd : ds.toList = pre ++ (u :: post)) {off : Nat} (ho : pre.length = off) : cs.setIfInBounds off u = ds := by
 apply Array.ext'
 rw [Array.toList_setIfInBounds, hl, hd, ← ho, List.set_append_right _ _ (Nat.le_refl _), Nat.sub_self]
 rfl
theorem Kr {cs ds : Array Value} (pre l m post : List Value) (hl : cs.toList = pre ++ (l ++ post)) (hd : ds.toList = pre ++ (m ++ post)) (hm : m.length = l.length) {off : Nat} (ho : pre.length = off) : Jg cs off m = ds := by
 apply Array.ext'
 unfold Jg
 rw [List.toList_toArray, hl, hd, ← ho, List.take_left, hm, ← List.drop_drop, List.drop_left, List.drop_left, List.append_assoc]
theorem Kb (d : Dig) : d.arr.toList.length = 32 := by simp [Dig.size]
theorem dig_cells (d : Dig) : ∀ u ∈ d.arr.toList, u.oneCell' = true := by
 rw [Dig.toList]
 exact GX
def Ha (s : List UInt8) (k : Dig) (n : Int) : Array Value := (.string (GZ s) :: (k.arr.toList ++ [.int .i64 n])).toArray
theorem NI (s : List UInt8) (k : Dig) (n : Int) : (Ha s k n).toList = .string (GZ s) :: (k.arr.toList ++ [.int .i64 n]) := rfl
theorem GN (s : List UInt8) (k : Dig) (n : Int) : (Ha s k n).size = 34 := by simp [Ha, Dig.size]
theorem JK (s : List UInt8) (k : Dig) (n : Int) : (Ha s k n).toList.length = 34 := by rw [Array.length_toList, GN]
theorem Kf {s : List UInt8} {k : Dig} {n : Int} : (Ha s k n)[0]? = some (.string (GZ s)) := rfl
theorem KN {s : List UInt8} {k : Dig} {n : Int} : (Ha s k n)[33]? = some (.int .i64 n) :=
 Ps (.string (GZ s) :: k.arr.toList) _ [] (by rw [NI]; rfl) (by simp [Dig.size])
theorem MG {W : World} {g t : Nat} {s : List UInt8} {k : Dig} {n : Int} {fr : Nat × Nat} (h : W.heap[g]? = some (.cells (Ha s k n) t fr)) : W.rangeAt g 1 k.arr.toList :=
 PF h [.string (GZ s)] _ [.int .i64 n] rfl rfl
theorem Mh (s : List UInt8) (k : Dig) (n : Int) : ∀ u ∈ (Ha s k n).toList, u.oneCell' = true := by
 intro u hu
 rw [NI] at hu
 simp only [List.mem_cons, List.mem_append, List.not_mem_nil, or_false] at hu
 rcases hu with rfl | hu | rfl
 ·rfl
 ·exact dig_cells k u hu
 ·rfl
theorem Hg (s : List UInt8) (k : Dig) (n : Int) : (Ha s k n).all (·.oneCell') = true := Array.all_eq_true_iff_forall_mem.2 fun u hu => Mh s k n u (Array.mem_toList_iff.2 hu)
theorem ntArr_turn (s : List UInt8) (k : Dig) (n m : Int) : (Ha s k n).setIfInBounds 33 (.int .i64 m) = Ha s k m :=
 set_part (.string (GZ s) :: k.arr.toList) (.int .i64 n) (.int .i64 m) [] (by rw [NI]; rfl) (by rw [NI]; rfl) (by simp [Dig.size])
theorem ntArr_putKey (s : List UInt8) (k d : Dig) (n : Int) : Jg (Ha s k n) 1 d.arr.toList = Ha s d n :=
 Kr [.string (GZ s)] k.arr.toList d.arr.toList [.int .i64 n] rfl rfl (by rw [Kb, Kb]) rfl
theorem ntArr_name (s u : List UInt8) (k : Dig) (n : Int) : Jg (Ha u k n) 0 [.string (GZ s)] = Ha s k n :=
 Kr (cs := Ha u k n) (ds := Ha s k n) [] [.string (GZ u)] [.string (GZ s)] (k.arr.toList ++ [Value.int .i64 n]) rfl rfl rfl rfl
def NoteN.arr (n : NoteN) : Array Value := Ha n.name n.key n.turn
def NoteN.v (n : NoteN) : Value := .agg n.arr
def H6 (ns : List NoteN) : List Value := ns.flatMap fun n => n.arr.toList
theorem JB (ns : List NoteN) : (H6 ns).length = ns.length * 34 := by
 induction ns with
 | nil => rfl
 | cons n ns ih => simp only [H6, List.flatMap_cons, List.length_append] at ih ⊢; rw [ih, show n.arr.toList.length = 34 from JK _ _ _, List.length_cons]; omega
theorem notesL_app (a b : List NoteN) : H6 (a ++ b) = H6 a ++ H6 b := by simp [H6]
theorem notesL_one (n : NoteN) : H6 [n] = n.arr.toList := by simp [H6]
theorem notes_at (ns : List NoteN) (i : Nat) (h : i < ns.length) : ((H6 ns).drop ((i : Int).toNat * 34)).take 34 = (ns[i]).arr.toList := by
 have e : ns = ns.take i ++ ([ns[i]] ++ ns.drop (i + 1)) := by
  rw [List.singleton_append, ← List.drop_eq_getElem_cons h, List.take_append_drop]
 conv => lhs; rw [e]
 have hl : (H6 (ns.take i)).length = (i : Int).toNat * 34 := by rw [JB, List.length_take, Nat.min_eq_left (by omega)]; rfl
 rw [notesL_app, List.drop_left' hl, notesL_app, notesL_one, List.take_left' (show (ns[i]).arr.toList.length = 34 from JK _ _ _)]
theorem note_cells {W : World} {g off i : Nat} {ns : List NoteN} (h : W.rangeAt g (off + (i : Int).toNat * 34) (((H6 ns).drop ((i : Int).toNat * 34)).take 34)) (hi : i < ns.length) : W.rangeAt g (off + (i : Int).toNat * 34) (ns[i]).arr.toList := by
 rwa [notes_at ns i hi] at h
def JE (s : List UInt8) (k : Dig) (n i : Int) (A : Option Addr) (m c : Nat) (B : Option Addr) (p q : Nat) : Array Value := ((Ha s k n).toList ++ ([.int .i64 i, .slice A m c, .slice B p q] : List Value)).toArray
section
variable {s : List UInt8} {k : Dig} {n i : Int} {A : Option Addr} {m c : Nat} {B : Option Addr} {p q : Nat}
theorem Ko : (JE s k n i A m c B p q).toList = (Ha s k n).toList ++ [.int .i64 i, .slice A m c, .slice B p q] := rfl
theorem fdArr_size' : (JE s k n i A m c B p q).size = 37 := by simp [JE, GN]
theorem fdArr_0 : (JE s k n i A m c B p q)[0]? = some (.string (GZ s)) := rfl
theorem Kd : (JE s k n i A m c B p q)[34]? = some (.int .i64 i) := Ps (Ha s k n).toList _ [.slice A m c, .slice B p q] Ko (JK _ _ _)
theorem My : (JE s k n i A m c B p q)[35]? = some (.slice A m c) := Ps ((Ha s k n).toList ++ [.int .i64 i]) _ [.slice B p q] (by rw [Ko]; simp) (by rw [List.length_append, JK]; rfl)
theorem MU : (JE s k n i A m c B p q)[36]? = some (.slice B p q) := Ps ((Ha s k n).toList ++ [.int .i64 i, .slice A m c]) _ [] (by rw [Ko]; simp) (by rw [List.length_append, JK]; rfl)
theorem J4 {W : World} {g t : Nat} {fr : Nat × Nat} (h : W.heap[g]? = some (.cells (JE s k n i A m c B p q) t fr)) : W.rangeAt g 0 (Ha s k n).toList := PF h [] _ [.int .i64 i, .slice A m c, .slice B p q] rfl rfl
theorem fdArr_all' : (JE s k n i A m c B p q).all (·.oneCell') = true := Array.all_eq_true_iff_forall_mem.2 fun u hu => by
 rw [← Array.mem_toList_iff, Ko] at hu
 simp only [List.mem_append, List.mem_cons, List.not_mem_nil, or_false] at hu
 rcases hu with hu | rfl | rfl | rfl
 ·exact Mh _ _ _ u hu
 all_goals rfl
theorem KR (s' : List UInt8) (k' : Dig) (n' : Int) : Jg (JE s k n i A m c B p q) 0 (Ha s' k' n').toList = JE s' k' n' i A m c B p q := Kr (cs := JE s k n i A m c B p q) (ds := JE s' k' n' i A m c B p q) [] (Ha s k n).toList (Ha s' k' n').toList [.int .i64 i, .slice A m c, .slice B p q] rfl rfl (by rw [JK, JK]) rfl
theorem Mz (i' : Int) : (JE s k n i A m c B p q).setIfInBounds 34 (.int .i64 i') = JE s k n i' A m c B p q := set_part (Ha s k n).toList _ _ [.slice A m c, .slice B p q] Ko Ko (JK _ _ _)
theorem NZ (A' : Option Addr) (m' c' : Nat) : (JE s k n i A m c B p q).setIfInBounds 35 (.slice A' m' c') = JE s k n i A' m' c' B p q := set_part ((Ha s k n).toList ++ [.int .i64 i]) (.slice A m c) (.slice A' m' c') [.slice B p q] (by rw [Ko]; simp) (by rw [Ko]; simp) (by rw [List.length_append, JK]; rfl)
theorem fdArr_put36 (A' : Option Addr) (m' c' : Nat) : (JE s k n i A m c B p q).setIfInBounds 36 (.slice A' m' c') = JE s k n i A m c A' m' c' := set_part ((Ha s k n).toList ++ [.int .i64 i, .slice A m c]) (.slice B p q) (.slice A' m' c') [] (by rw [Ko]; simp) (by rw [Ko]; simp) (by rw [List.length_append, JK]; rfl)
end
theorem Ji (s : List UInt8) (k : Dig) (n i : Int) (A : Option Addr) (m c : Nat) (B : Option Addr) (p q : Nat) : (JE s k n i A m c B p q).size = 37 := fdArr_size'
theorem Ky (s : List UInt8) (k : Dig) (n i : Int) (A : Option Addr) (m c : Nat) (B : Option Addr) (p q : Nat) : (JE s k n i A m c B p q).all (·.oneCell') = true := fdArr_all'
def Nq (s : List UInt8) (k : Dig) (n i : Int) (d : Dig) : Array Value := ((Ha s k n).toList ++ (.int .i64 i :: d.arr.toList)).toArray
section
variable {s : List UInt8} {k : Dig} {n i : Int} {d : Dig}
theorem NJ : (Nq s k n i d).toList = (Ha s k n).toList ++ (.int .i64 i :: d.arr.toList) := rfl
theorem lsArr_33 : (Nq s k n i d)[33]? = some (.int .i64 n) := Ps (.string (GZ s) :: k.arr.toList) _ (.int .i64 i :: d.arr.toList) (by rw [NJ, NI]; simp) (by simp [Dig.size])
theorem lsArr_34 : (Nq s k n i d)[34]? = some (.int .i64 i) := Ps (Ha s k n).toList _ d.arr.toList NJ (JK _ _ _)
theorem lsArr_note {W : World} {g t : Nat} {fr : Nat × Nat} (h : W.heap[g]? = some (.cells (Nq s k n i d) t fr)) : W.rangeAt g 0 (Ha s k n).toList := PF h [] _ (.int .i64 i :: d.arr.toList) rfl rfl
theorem lsArr_leaf : ((Nq s k n i d).toList.drop 35).take 32 = d.arr.toList := by
 have e : (Nq s k n i d).toList = ((Ha s k n).toList ++ [.int .i64 i]) ++ d.arr.toList := by rw [NJ]; simp
 rw [e, List.drop_left' (by rw [List.length_append, JK]; rfl), List.take_of_length_le (by rw [Kb]; exact Nat.le_refl _)]
end
theorem M1 (s : List UInt8) (k : Dig) (n i : Int) (d : Dig) : (Nq s k n i d).size = 67 := by simp [Nq, GN, Dig.size]
theorem MH (s : List UInt8) (k : Dig) (n i : Int) (d : Dig) : (Nq s k n i d).all (·.oneCell') = true := Array.all_eq_true_iff_forall_mem.2 fun u hu => by
 rw [← Array.mem_toList_iff, NJ] at hu
 simp only [List.mem_append, List.mem_cons] at hu
 rcases hu with hu | rfl | hu
 ·exact Mh _ _ _ u hu
 ·rfl
 ·exact dig_cells d u hu
def lgArr (A : Option Addr) (m c : Nat) (B : Option Addr) (p q : Nat) (x y : Nat) : Array Value := #[.slice A m c, .slice B p q, .map (some x), .map (some y)]
section
variable {A : Option Addr} {m c : Nat} {B : Option Addr} {p q x y : Nat}
theorem lgArr_0 : (lgArr A m c B p q x y)[0]? = some (.slice A m c) := rfl
theorem KH : (lgArr A m c B p q x y)[1]? = some (.slice B p q) := rfl
theorem KY : (lgArr A m c B p q x y)[2]? = some (.map (some x)) := rfl
theorem PR : (lgArr A m c B p q x y)[3]? = some (.map (some y)) := rfl
theorem lgArr_s1 (B' : Option Addr) (p' q' : Nat) : (lgArr A m c B p q x y).setIfInBounds 1 (.slice B' p' q') = lgArr A m c B' p' q' x y := rfl
end
theorem GD : GW Tryz.prog 34 (.agg (Ha [] GM 0)) 34 56 := by unfold GW; kernel_rfl
theorem G1 : GW Tryz.prog 46 (.agg (JE [] GM 0 0 none 0 0 none 0 0)) 37 112 := by unfold GW; kernel_rfl
theorem Hi : GW Tryz.prog 85 (.agg (Nq [] GM 0 0 GM)) 67 96 := by unfold GW; kernel_rfl
theorem el_log_Log : GW Tryz.prog 80 (.agg #[.slice none 0 0, .slice none 0 0, .map none, .map none]) 4 64 := by unfold GW; kernel_rfl
theorem Hc : GW Tryz.prog 110 (.agg (J7 0 GM)) 33 40 := by unfold GW; kernel_rfl
section
variable {ops : Array Oper} {rest : List Oper} {o : Oper} {a : Act} {W : World} {Q : Exit → Act → World → Prop} {d : Option Tmp}
theorem L_buildE (hd : o.dst = d) (hw : Region.wanted o (yielded ops a.tmps) = true) {x y : Operand} (ho : o.op = .build 110 #[(0, x), (1, y)]) {n : Int} {q : Dig} (hx : a.eval x = .int .i64 n) (hy : a.eval y = .agg q.arr)
  (h : wpList Tryz.prog ops Q rest (a.put d (.agg (J7 n q))) W) : wpList Tryz.prog ops Q (o :: rest) a W :=
 Mb hd hw ho uz110 Hc [(0, 1), (1, 32)] (by kernel_rfl) (ps := [(0, .int .i64 n), (1, .agg q.arr)]) (by simp [hx, hy]) (qs := [(0, [.int .i64 n]), (1, q.arr.toList)])
  ⟨rfl, rfl, by simp [Jq], by rw [Kb]; rfl, rfl, by rw [Jq, Kb]; decide, trivial⟩
  (by
   unfold KG KG KG
   rw [show Jg (J7 0 GM) 0 [.int .i64 n] = J7 n GM from Kr [] [.int .i64 0] [.int .i64 n] GM.arr.toList rfl rfl rfl rfl]
   exact Kr [.int .i64 n] GM.arr.toList q.arr.toList [] (by rw [NG]; simp) (by rw [NG]; simp) (by rw [Kb, Kb]) rfl) h
theorem L_buildN (hd : o.dst = d) (hw : Region.wanted o (yielded ops a.tmps) = true) {x y : Operand} (ho : o.op = .build 34 #[(0, x), (1, y)]) {s : List UInt8} {q : Dig} (hx : a.eval x = .string (GZ s)) (hy : a.eval y = .agg q.arr)
  (h : wpList Tryz.prog ops Q rest (a.put d (.agg (Ha s q 0))) W) : wpList Tryz.prog ops Q (o :: rest) a W :=
 Mb hd hw ho uz34 GD [(0, 1), (1, 32), (33, 1)] (by kernel_rfl) (ps := [(0, .string (GZ s)), (1, .agg q.arr)]) (by simp [hx, hy]) (qs := [(0, [.string (GZ s)]), (1, q.arr.toList)])
  ⟨rfl, rfl, by simp [GN], by rw [Kb]; rfl, rfl, by rw [GN, Kb]; decide, trivial⟩
  (by unfold KG KG KG; rw [ntArr_name, ntArr_putKey]) h
theorem Je (hd : o.dst = d) (hw : Region.wanted o (yielded ops a.tmps) = true) (ho : o.op = .build 34 #[])
  (h : wpList Tryz.prog ops Q rest (a.put d (.agg (Ha [] GM 0))) W) : wpList Tryz.prog ops Q (o :: rest) a W :=
 Mb hd hw ho uz34 GD [(0, 1), (1, 32), (33, 1)] (by kernel_rfl) (ps := []) rfl (qs := []) trivial rfl h
theorem L_buildFz (hd : o.dst = d) (hw : Region.wanted o (yielded ops a.tmps) = true) (ho : o.op = .build 46 #[])
  (h : wpList Tryz.prog ops Q rest (a.put d (.agg (JE [] GM 0 0 none 0 0 none 0 0))) W) : wpList Tryz.prog ops Q (o :: rest) a W :=
 Mb hd hw ho uz46 G1 [(0, 34), (34, 1), (35, 1), (36, 1)] (by kernel_rfl) (ps := []) rfl (qs := []) trivial rfl h
theorem L_buildL (hd : o.dst = d) (hw : Region.wanted o (yielded ops a.tmps) = true) {x y z : Operand} (ho : o.op = .build 85 #[(0, x), (1, y), (2, z)]) {s : List UInt8} {k : Dig} {n i : Int} {q : Dig} (hx : a.eval x = .agg (Ha s k n)) (hy : a.eval y = .int .i64 i) (hz : a.eval z = .agg q.arr)
  (h : wpList Tryz.prog ops Q rest (a.put d (.agg (Nq s k n i q))) W) : wpList Tryz.prog ops Q (o :: rest) a W :=
 Mb hd hw ho uz85 Hi [(0, 34), (34, 1), (35, 32)] (by kernel_rfl) (ps := [(0, .agg (Ha s k n)), (1, .int .i64 i), (2, .agg q.arr)]) (by simp [hx, hy, hz]) (qs := [(0, (Ha s k n).toList), (34, [.int .i64 i]), (35, q.arr.toList)])
  ⟨by rw [JK]; rfl, rfl, by rw [M1, JK]; decide, rfl, rfl, by simp [M1], by rw [Kb]; rfl, rfl, by rw [M1, Kb]; decide, trivial⟩
  (by
   unfold KG KG KG KG
   rw [show Jg (Nq [] GM 0 0 GM) 0 (Ha s k n).toList = Nq s k n 0 GM from Kr (cs := Nq [] GM 0 0 GM) (ds := Nq s k n 0 GM) [] (Ha [] GM 0).toList (Ha s k n).toList (.int .i64 0 :: GM.arr.toList) rfl rfl (by rw [JK, JK]) rfl]
   rw [show Jg (Nq s k n 0 GM) 34 [.int .i64 i] = Nq s k n i GM from Kr (Ha s k n).toList [.int .i64 0] [.int .i64 i] GM.arr.toList rfl rfl rfl (JK _ _ _)]
   exact Kr ((Ha s k n).toList ++ [.int .i64 i]) GM.arr.toList q.arr.toList [] (by rw [NJ]; simp) (by rw [NJ]; simp) (by rw [Kb, Kb]) (by rw [List.length_append, JK]; rfl)) h
end
theorem ntArr_part (s : List UInt8) (k : Dig) (n : Int) : ((Ha s k n).toList.drop 1).take 32 = k.arr.toList := by
 rw [NI, List.drop_succ_cons, List.drop_zero, List.take_left' (Kb k)]
end
section
open Go.RowKit
abbrev KD := Fin 4294967296 × Dig
instance : Inhabited KD := ⟨(⟨0, by decide⟩, GM)⟩
def kdN (x : KD) : Nat × Dig := (x.1.val, x.2)
def encE (x : KD) : List Value := (J7 ((x.1.val : Nat) : Int) x.2).toList
theorem length_encE (x : KD) : (encE x).length = 33 := by rw [encE, Array.length_toList, Jq]
def entI (es : List (Nat × Dig)) : List (Int × Dig) := es.map fun e => (((e.1 : Nat) : Int), e.2)
def Jc (es : List (Nat × Dig)) : List Value := Nj (entI es)
theorem Jv (es : List (Nat × Dig)) : (Jc es).length = es.length * 33 := by rw [Jc, length_pairsL, entI, List.length_map]
theorem kd_of : ∀ {es : List (Nat × Dig)}, (∀ e ∈ es, e.1 < 4294967296) → ∃ ks : List KD, es = ks.map kdN
 | [], _ => ⟨[], rfl⟩
 | e :: es, h => by
  obtain ⟨ks, hk⟩ := kd_of (es := es) (fun x hx => h x (List.mem_cons_of_mem _ hx))
  have h1 := h e (by simp)
  subst hk
  exact ⟨(⟨e.1, h1⟩, e.2) :: ks, rfl⟩
theorem entL_app (a b : List (Nat × Dig)) : Jc (a ++ b) = Jc a ++ Jc b := by simp [Jc, entI, pairsL_app]
theorem entL_at (es : List (Nat × Dig)) (i : Nat) (h : i < es.length) : ((Jc es).drop (i * 33)).take 33 = (J7 ((es[i].1 : Nat) : Int) es[i].2).toList := by
 have := pairs_at (entI es) i (by simpa [entI] using h)
 unfold Jc
 simpa [entI] using this
theorem entL_drop (es : List (Nat × Dig)) (i : Nat) (h : i ≤ es.length) : (Jc es).drop (i * 33) = Jc (es.drop i) := by
 have e : Jc es = Jc (es.take i) ++ Jc (es.drop i) := by rw [← entL_app, List.take_append_drop]
 rw [e, List.drop_left' (by rw [Jv, List.length_take, Nat.min_eq_left h])]
theorem entL_take (es : List (Nat × Dig)) (i : Nat) (h : i ≤ es.length) : (Jc es).take (i * 33) = Jc (es.take i) := by
 have e : Jc es = Jc (es.take i) ++ Jc (es.drop i) := by rw [← entL_app, List.take_append_drop]
 rw [e, List.take_left' (by rw [Jv, List.length_take, Nat.min_eq_left h])]
theorem kd_at {ks : List KD} {j : Nat} (h : j < ks.length) : ((Jc (ks.map kdN)).drop (j * 33)).take 33 = encE (ks[j]!) := by
 rw [entL_at _ j (by simpa using h)]
 simp [encE, kdN, getElem!_def, List.getElem?_eq_getElem h]
theorem ent_cells {W : World} {b off n c : Nat} {ks : List KD} (h : SlR W (some ⟨b, off, none⟩) n c 33 (Jc (ks.map kdN))) {j : Nat} (hj : j < ks.length) {i : Nat} {v : Value} (hv : (encE (ks[j]!))[i]? = some v) : W.cell? ⟨b, off + j * 33 + i, none⟩ = some v := by
 have hn : n = ks.length := by have := h.1; rw [Jv, List.length_map] at this; omega
 obtain ⟨b', off', hA, hr⟩ := h.at (i := j) (by omega)
 simp only [Option.some.injEq, Addr.mk.injEq, and_true] at hA
 obtain ⟨rfl, rfl⟩ := hA
 rw [kd_at hj] at hr
 exact hr i v hv
theorem idxBy_find (p : KD → Bool) : ∀ (ks : List KD) (i : Nat), Lib.idxByFrom (fun (_ : KD) y => p y) default ks i = if (ks.findIdx p) < ks.length then ((i + ks.findIdx p : Nat) : Int) else -1
 | [], i => rfl
 | k :: ks, i => by
  rw [Lib.idxByFrom, List.findIdx_cons]
  by_cases h : p k = true
  ·simp [h]
  ·simp only [h, Bool.false_eq_true, if_false, cond_false]
   rw [idxBy_find p ks (i + 1)]
   by_cases h2 : List.findIdx p ks < ks.length
   ·rw [if_pos h2, if_pos (by simpa using h2)]
    congr 1
    omega
   ·rw [if_neg h2, if_neg (by simpa using h2)]
def bitK (b k : Nat) : Bool := decide (k / 2 ^ b % 2 = 1)
theorem findIdx_kd (q : Nat → Bool) (ks : List KD) : (ks.map kdN).findIdx (fun e => q e.1) = ks.findIdx (fun x => q x.1.val) := by
 induction ks with
 | nil => rfl
 | cons k ks ih => rw [List.map_cons, List.findIdx_cons, List.findIdx_cons, ih]; rfl
theorem sorted_kd {ks ds : List KD} (hp : ds.Perm ks) (hs : ds.Pairwise fun a b => ¬ b.1.val < a.1.val) (hd : ((ks.map kdN).map (·.1)).Nodup) : (ds.map kdN).Pairwise (fun a b => a.1 < b.1) ∧ (ds.map kdN).Perm (ks.map kdN) := by
 refine ⟨?_, hp.map _⟩
 have hd' : ((ds.map kdN).map (·.1)).Nodup := (((hp.map kdN).map (·.1)).nodup_iff).2 hd
 rw [List.map_map] at hd'
 rw [List.pairwise_map]
 have hne : ds.Pairwise (fun a b => (kdN a).1 ≠ (kdN b).1) := List.pairwise_map.1 hd'
 exact (hs.and hne).imp (fun {a b} ⟨h1, h2⟩ => by simp only [kdN] at h2 ⊢; omega)
theorem list_sorted {lt : KD → KD → Bool} {d : Array KD} (h : Sort.SortedIn lt 0 d.size d) : d.toList.Pairwise (fun a b => lt b a = false) := by
 rw [List.pairwise_iff_getElem]
 intro i j hi hj hij
 have := h i j (Nat.zero_le _) hij (by simpa using hj)
 rw [getElem!_pos d j (by simpa using hj), getElem!_pos d i (by simpa using hi)] at this
 simpa using this
theorem list_perm {d d' : Array KD} (h : Sort.PermIn 0 d.size d d') : d'.size = d.size ∧ d'.toList.Perm d.toList := by
 obtain ⟨h1, _, h2⟩ := h
 refine ⟨h1, ?_⟩
 rw [← h1] at h2
 simp only [Array.extract_size] at h2
 rw [h1] at h2
 simpa using h2
theorem bit_mid {b q k : Nat} (h1 : q * 2 ^ (b + 1) ≤ k) (h2 : k < q * 2 ^ (b + 1) + 2 ^ (b + 1)) : bitK b k = decide (q * 2 ^ (b + 1) + 2 ^ b ≤ k) := by
 unfold bitK
 have hp := Nat.two_pow_pos b
 have e : 2 ^ (b + 1) = 2 ^ b * 2 := Nat.pow_succ _ _
 have e2 : q * 2 ^ (b + 1) = 2 * q * 2 ^ b := by rw [e]; rw [Nat.mul_comm (2 ^ b) 2, ← Nat.mul_assoc, Nat.mul_comm q 2]
 congr 1
 apply propext
 have hk := Nat.div_add_mod k (2 ^ b)
 have hm := Nat.mod_lt k hp
 have hlo : 2 * q ≤ k / 2 ^ b := (Nat.le_div_iff_mul_le hp).2 (by omega)
 have hhi : k / 2 ^ b < 2 * q + 2 := (Nat.div_lt_iff_lt_mul hp).2 (by rw [Nat.add_mul]; omega)
 constructor
 ·intro h
  have : k / 2 ^ b = 2 * q + 1 := by omega
  have := (Nat.le_div_iff_mul_le (x := 2 * q + 1) hp).1 (by omega : 2 * q + 1 ≤ k / 2 ^ b)
  rw [Nat.add_mul] at this
  omega
 ·intro h
  have : 2 * q + 1 ≤ k / 2 ^ b := (Nat.le_div_iff_mul_le hp).2 (by rw [Nat.add_mul]; omega)
  omega
end
section
open Go.RowKit
theorem rof_any (tag : UInt8) (ds : List Dig) (A : Option Addr) (n c : Nat) (w : World) (hx : SlR w A n c 32 (GP ds)) (hm : n ≤ 1099511627776) :
  Calls Tryz.prog 122 #[JC tag, .slice A n c] w fun e w' => e = .returned (ofN tag ds).v ∧ St w w' [] := by
 have Ga := St.refl w
 have hn : ds.length = n := by
  have := hx.1
  rw [G8] at this
  omega
 have Hn := Gg hn
 have hcap := hx.2.1
 have hmx := hx.2.2.1
 simp only [maxLen] at hmx
 clear hn
 unfold JC
 go_enter Tryz.func122, Tryz.ntmps122
 go_wp2_with (first | (refine Gk 4 rfl Gv ?_; (try clear Gb); intro g4 W4 Gb; replace Ga := Ga.tr1 Gb) | (refine Gq 9 rfl [_] (Kj (Gw rfl)) rfl uz22 GF rfl (by (simp [Value.cells]; done)) (by decide) (by decide) ?_; (try clear Gb); intro g9 W9 Gb; replace Ga := Ga.tr1 Gb; simp only [List.flatMap_cons, List.flatMap_nil, List.append_nil, Value.cells, List.toList_toArray] at Ga))
 have Ga : St w W9 [.row g9 (1 + 0 * 32) 1 5 1 (GK (tag :: P4 (ds.take 0))), .blk g4 32 GM.arr] := Ga
 clear Gb
 go_loopg [5, 6] n (fun gk s5 s6 wr => ∃ (i : Nat) (A' : Option Addr) (c' : Nat), Hid (i + gk = n) ∧ s5 = .slice A' (1 + i * 32) c' ∧ s6 = .int .i64 (i : Int) ∧ St w wr [.row A' (1 + i * 32) c' 5 1 (GK (tag :: P4 (ds.take i))), .blk g4 32 GM.arr])
 case atStart => exact ⟨0, g9, 1, Gg (by omega), rfl, rfl, Ga⟩
 case round =>
  clear Ga
  obtain ⟨i, A', c', HI, rfl, rfl, Ga⟩ := hrel
  have hi := HI.out
  by_cases hin : i < n
  ·clear hi
   have hds := Gg (MQ ds i (by rw [Hn.out]; exact hin))
   have hta := Gg (allB_take ds i (by rw [Hn.out]; exact hin))
   have hgt : ∃ dd : Dig, Hid (dd = ds[i]'(by rw [Hn.out]; exact hin)) := ⟨_, Lib.hid rfl⟩
   obtain ⟨dd, hdd⟩ := hgt
   go_wp2_with (first | (refine Gn 19 rfl (by rfl) uz32 rfl Gv (cs := dd.arr) (by rw [Dig.toList, hdd.out, ← hds.out]; exact hr18) (Dig.size _) ?_) | (refine Gp 18 rfl (by rfl) (by rfl) uz44 Gv (Ga.old (by decide) hx) (by omega) (by omega) ?_; intro o18 p18 ha18 hr18; ((subst ha18))) | (refine Gk 7 rfl Gv ?_; (try clear Gb); intro g7 W7 Gb; replace Ga := Ga.tr1 Gb) | ((refine Gr 7 19 Ga rfl (by rfl) (Gw rfl) (Dig.one _) Gv (Dig.size _) 0 rfl (by rfl) ?_; clear Ga; intro WS5 Ga; simp only [Ge, Gf] at Ga)) | (refine Jx (d := some 21) rfl rfl rfl (by rfl) uz32 GF (Ga.get 0 rfl) (Dig.size _) (by decide) ?_; intro hs21) | (refine GY (d := some 22) rfl rfl Ga rfl (by rfl) (by rfl) uz22 GF rfl (by decide) (by decide) 1 rfl (by rfl) (hs21) (GX) (by omega) ?_; clear Ga; intro A22 c22 W22 Ga; simp only [Ge, Gf, List.nil_append, Nat.zero_add] at Ga))
   go_roundg (gk - 1)
   case measure => have hi := HI.out; omega
   case rel =>
    have hi := HI.out
    refine ⟨i + 1, A22, c22, Gg (by omega), by congr 1; omega, by go_num, ?_⟩
    rw [hta.out, ← hdd.out, ← List.cons_append, Hj, show 1 + (i + 1) * 32 = 1 + i * 32 + 32 by omega]
    exact (Ga.pick [1, 2] (by decide))
  ·obtain rfl : i = n := by omega
   have hall : P4 (ds.take i) = P4 ds := by rw [List.take_of_length_le (by rw [Hn.out]; exact Nat.le_refl _)]
   rw [hall] at Ga
   clear hall hi HI
   go_wp2_with (first | (go_at_call 76; (try clear Gb); with_reducible refine (Ng _ _ _ _ _ (Ga.sl 0 rfl) (by omega)).mono ?_; rintro e Wk1 ⟨rfl, Gb⟩; replace Ga := Ga.keep Gb) | ((refine Gr 4 24 Ga rfl (by rfl) (Gw rfl) (Dig.one _) Gv (by rfl) 1 rfl (by rfl) ?_; clear Ga; intro WS2 Ga; simp only [Ge, Gf] at Ga)))
   refine Hw rfl rfl rfl (Ga.get 1 rfl) uz32 rfl Gv (by rfl) ?_
   exact ⟨rfl, Ga.forget⟩
end
section
open Go.RowKit
theorem padK_take (k : List UInt8) (x : UInt8) (i : Nat) (h : i < 64) : GK ((ML k x).take i) ++ [.int .u8 (((k.getD i 0).toNat ^^^ x.toNat : Nat) : Int)] = GK ((ML k x).take (i + 1)) := by
 have hl : i < (ML k x).length := by rw [KK]; exact h
 have hg : (ML k x)[i] = k.getD i 0 ^^^ x := by simp [ML]
 rw [List.take_succ_eq_append_getElem hl, hg, Hj, xor_byte]
 rfl
theorem padK_all (k : List UInt8) (x : UInt8) : (ML k x).take 64 = ML k x := List.take_of_length_le (by rw [KK]; exact Nat.le_refl _)
theorem rmac_any (key b : List UInt8) (K A : Option Addr) (m mc n c : Nat) (w : World) (hk : SlR w K m mc 1 (GK key)) (hx : SlR w A n c 1 (GK b)) (hm : m ≤ 140737488355000) (hn : n ≤ 140737488354000) :
  Calls Tryz.prog 64 #[.slice K m mc, .slice A n c] w fun e w' => e = .returned (macN key b).v ∧ St w w' [] := by
 have Ga := St.refl w
 have hkl := hk.1
 have hxl := hx.1
 rw [G7, Nat.mul_one] at hkl hxl
 have Hkl := Gg hkl
 have Hxl := Gg hxl
 clear hkl hxl
 go_enter Tryz.func64, Tryz.ntmps64
 go_upto_if 13 with (refine Gk 4 rfl Gv ?_; (try clear Gb); intro g4 W4 Gb; replace Ga := Ga.tr1 Gb)
 clear Gb
 go_cut [0] (fun s0 wx => ∃ (K' : Option Addr) (m' c' : Nat) (kk : List UInt8) (Lk : List Res), Hid (kk = kyO key ∧ kk.length = m') ∧ m' ≤ 64 ∧ s0 = .slice K' m' c' ∧ Hid (Src w Lk K' m' c' 1 (GK kk)) ∧ St w wx (.blk g4 32 GM.arr :: Lk))
 case first =>
  by_cases h64 : 64 < m
  ·have h1 : (64 : Int) < (m : Int) := by omega
   go_wp2_with (first | (go_at_call 76; (try clear Gb); with_reducible refine (Ng _ _ _ _ _ (Ga.old (by decide) hk) (by omega)).mono ?_; rintro e Wk1 ⟨rfl, Gb⟩; replace Ga := Ga.keep Gb) | (refine Gk 5 rfl Gv ?_; (try clear Gb); intro g5 W5 Gb; replace Ga := Ga.tr1 Gb) | ((refine Gr 5 15 Ga rfl (by rfl) (Gw rfl) (Dig.one _) Gv (by rfl) 0 rfl (by rfl) ?_; clear Ga; intro WS3 Ga; simp only [Ge, Gf] at Ga)) | (refine Jx (d := some 16) rfl rfl rfl (by rfl) uz32 GF (Ga.get 0 rfl) (by rfl) (by decide) ?_; intro hs16))
   go_meet
   case rel =>
    refine ⟨_, _, _, (sha key).l, [.blk g5 32 (sha key).arr], Lib.hid ⟨?_, (sha key).h⟩, by omega, rfl, Lib.hid ?_, Ga.pick [1, 0] (by decide)⟩
    ·rw [kyO, if_pos (by rw [Hkl.out]; exact h64)]
    ·rw [← Dig.toList]
     exact Src.blk (i := 0) rfl (Dig.size _) (by decide)
  ·have h1 : (m : Int) ≤ 64 := by omega
   go_wp2_with fail
   go_meet
   case rel =>
    refine ⟨K, m, mc, key, [], Lib.hid ⟨?_, Hkl.out⟩, by omega, rfl, Gg (Src.old (by decide) hk _), Ga⟩
    rw [kyO, if_neg (by rw [Hkl.out]; omega)]
 case rest =>
  clear Ga
  obtain ⟨K', m', c', kk, Lk, HK, hm64, rfl, HS, Ga⟩ := hcut
  go_wp2_with (fail)
  have Ga : St w wc (.row none 0 0 5 1 (GK ((ML kk 92).take 0)) :: .row none 0 0 5 1 (GK ((ML kk 54).take 0)) :: .blk g4 32 GM.arr :: Lk) := (Ga.nilRow 5 1).nilRow 5 1
  go_loopg [6, 7, 8, 9] 64 (fun gk s6 s7 s8 s9 wr => ∃ (i : Nat) (O I : Option Addr) (oc ic : Nat), Hid (i + gk = 64) ∧ s6 = .slice O i oc ∧ s7 = .slice I i ic ∧ s8 = .int .i64 (i : Int) ∧ St w wr (.row O i oc 5 1 (GK ((ML kk 92).take i)) :: .row I i ic 5 1 (GK ((ML kk 54).take i)) :: .blk g4 32 GM.arr :: Lk))
  case atStart => exact ⟨0, none, none, 0, 0, Gg (by omega), rfl, rfl, rfl, Ga⟩
  case round =>
   clear Ga
   obtain ⟨i, O, I, oc, ic, HI, rfl, rfl, rfl, Ga⟩ := hrel
   have hi := HI.out
   by_cases h64 : i < 64
   ·clear hi
    have HP9 := Gg (padK_take kk 92 i h64)
    have HP5 := Gg (padK_take kk 54 i h64)
    by_cases hin : i < m'
    ·have hb := Gg (show i < kk.length by rw [HK.out.2]; exact hin)
     have hx5 : bits .xor .u8 ((kk.getD i 0).toNat : Int) 54 = (((kk.getD i 0).toNat ^^^ 54 : Nat) : Int) := xor_val _ 54
     have hx9 : bits .xor .u8 ((kk.getD i 0).toNat : Int) 92 = (((kk.getD i 0).toNat ^^^ 92 : Nat) : Int) := xor_val _ 92
     have HC := Gg (fun (W : World) (g off : Nat) h => Me (W := W) (g := g) (off := off) (i := i) (l := kk) h hb.out)
     generalize kk.getD i 0 = x at *
     go_wp2_with (first | (refine GB (.load 5 (.tmp 27)) rfl ?_; (refine Gj 28 rfl (by rfl) uz5 rfl (HC.out _ _ _ hr27) ?_)) | (refine Gp 27 rfl (by rfl) (by rfl) uz22 GF (HS.out _ (Ga.tailN 3)) (by omega) (by omega) ?_; intro o27 p27 ha27 hr27; ((subst ha27))) | (refine Gq 32 rfl [_] (Kj (Gw rfl)) rfl uz22 GF rfl (by (simp [Value.cells]; done)) (by decide) (by decide) ?_; (try clear Gb); intro g32 W32 Gb; replace Ga := Ga.tr1 Gb; simp only [List.flatMap_cons, List.flatMap_nil, List.append_nil, Value.cells, List.toList_toArray] at Ga) | (refine GY (d := some 33) rfl rfl Ga rfl (by rfl) (by rfl) uz22 GF rfl (by decide) (by decide) 1 rfl (by rfl) (Ga.sl 0 rfl) (by (simp [Value.oneCell']; done)) (by omega) ?_; clear Ga; intro A33 c33 W33 Ga; simp only [Ge, Gf, List.nil_append, Nat.zero_add] at Ga) | (refine Gq 37 rfl [_] (Kj (Gw rfl)) rfl uz22 GF rfl (by (simp [Value.cells]; done)) (by decide) (by decide) ?_; (try clear Gb); intro g37 W37 Gb; replace Ga := Ga.tr1 Gb; simp only [List.flatMap_cons, List.flatMap_nil, List.append_nil, Value.cells, List.toList_toArray] at Ga) | (refine GY (d := some 38) rfl rfl Ga rfl (by rfl) (by rfl) uz22 GF rfl (by decide) (by decide) 3 rfl (by rfl) (Ga.sl 0 rfl) (by (simp [Value.oneCell']; done)) (by omega) ?_; clear Ga; intro A38 c38 W38 Ga; simp only [Ge, Gf, List.nil_append, Nat.zero_add] at Ga))
     go_roundg (gk - 1)
     case measure => have hi := HI.out; omega
     case rel =>
      have hi := HI.out
      refine ⟨i + 1, A33, A38, c33, c38, Gg (by omega), rfl, rfl, by go_num, ?_⟩
      rw [← HP9.out, ← HP5.out]
      exact Ga.tail.tail
    ·have hz : kk.getD i 0 = 0 := by
      have := HK.out.2
      rw [List.getD_eq_getElem?_getD, List.getElem?_eq_none (by omega)]
      rfl
     have hx5 : bits .xor .u8 (0 : Int) 54 = 54 := by decide
     have hx9 : bits .xor .u8 (0 : Int) 92 = 92 := by decide
     rw [hz] at HP5 HP9
     clear hz
     go_wp2_with (first | (refine Gq 32 rfl [_] (Kj (Gw rfl)) rfl uz22 GF rfl (by (simp [Value.cells]; done)) (by decide) (by decide) ?_; (try clear Gb); intro g32 W32 Gb; replace Ga := Ga.tr1 Gb; simp only [List.flatMap_cons, List.flatMap_nil, List.append_nil, Value.cells, List.toList_toArray] at Ga) | (refine GY (d := some 33) rfl rfl Ga rfl (by rfl) (by rfl) uz22 GF rfl (by decide) (by decide) 1 rfl (by rfl) (Ga.sl 0 rfl) (by (simp [Value.oneCell']; done)) (by omega) ?_; clear Ga; intro A33 c33 W33 Ga; simp only [Ge, Gf, List.nil_append, Nat.zero_add] at Ga) | (refine Gq 37 rfl [_] (Kj (Gw rfl)) rfl uz22 GF rfl (by (simp [Value.cells]; done)) (by decide) (by decide) ?_; (try clear Gb); intro g37 W37 Gb; replace Ga := Ga.tr1 Gb; simp only [List.flatMap_cons, List.flatMap_nil, List.append_nil, Value.cells, List.toList_toArray] at Ga) | (refine GY (d := some 38) rfl rfl Ga rfl (by rfl) (by rfl) uz22 GF rfl (by decide) (by decide) 3 rfl (by rfl) (Ga.sl 0 rfl) (by (simp [Value.oneCell']; done)) (by omega) ?_; clear Ga; intro A38 c38 W38 Ga; simp only [Ge, Gf, List.nil_append, Nat.zero_add] at Ga))
     go_roundg (gk - 1)
     case measure => have hi := HI.out; omega
     case rel =>
      have hi := HI.out
      refine ⟨i + 1, A33, A38, c33, c38, Gg (by omega), rfl, rfl, by go_num, ?_⟩
      rw [← HP9.out, ← HP5.out]
      exact Ga.tail.tail
   ·obtain rfl : i = 64 := by omega
    clear hi HI
    rw [padK_all, padK_all] at Ga
    have hfin : sha (ML kk 92 ++ (sha (ML kk 54 ++ b)).l) = macN key b := by rw [HK.out.1]; rfl
    have Hfin := Gg hfin
    clear hfin
    go_wp2_with (first | (go_at_call 76; (try clear Gb); first | (refine (Ng (ML kk 54 ++ b) _ _ _ _ (by rw [Hj]; exact Ga.sl 1 rfl) (by omega)).mono ?_; rintro e W42 ⟨rfl, Gb⟩; replace Ga := Ga.keep Gb) | (refine (Ng (ML kk 92 ++ (sha (ML kk 54 ++ b)).l) _ _ _ _ (by rw [Hj, ← Dig.toList]; exact Ga.sl 1 rfl) (by omega)).mono ?_; rintro e W46 ⟨rfl, Gb⟩; replace Ga := Ga.keep Gb)) | (refine GY (d := some 41) rfl rfl Ga rfl (by rfl) (by rfl) uz22 GF rfl (by decide) (by decide) 1 rfl (by rfl) (Ga.old (by decide) hx) (GX) (by omega) ?_; clear Ga; intro A41 c41 W41 Ga; simp only [Ge, Gf, List.nil_append, Nat.zero_add] at Ga) | (refine Gk 10 rfl Gv ?_; (try clear Gb); intro g10 W10 Gb; replace Ga := Ga.tr1 Gb) | ((refine Gr 10 42 Ga rfl (by rfl) (Gw rfl) (Dig.one _) Gv (by rfl) 0 rfl (by rfl) ?_; clear Ga; intro WS5 Ga; simp only [Ge, Gf] at Ga)) | (refine Jx (d := some 44) rfl rfl rfl (by rfl) uz32 GF (Ga.get 0 rfl) (by rfl) (by decide) ?_; intro hs44) | (refine GY (d := some 45) rfl rfl Ga rfl (by rfl) (by rfl) uz22 GF rfl (by decide) (by decide) 1 rfl (by rfl) (hs44) (GX) (by omega) ?_; clear Ga; intro A45 c45 W45 Ga; simp only [Ge, Gf, List.nil_append, Nat.zero_add] at Ga) | ((refine Gr 4 46 Ga rfl (by rfl) (Gw rfl) (Dig.one _) Gv (by rfl) 3 rfl (by rfl) ?_; clear Ga; intro WS4 Ga; simp only [Ge, Gf] at Ga)))
    rw [Hfin.out] at Ga
    refine Hw rfl rfl rfl (Ga.get 3 rfl) uz32 rfl Gv (by rfl) ?_
    exact ⟨rfl, Ga.forget⟩
end
section
open Go.RowKit
theorem bS (n : Int) (i : Nat) (h : i < 8) (m : Int) (hm : m = 2 ^ (8 * i)) : Value.int .u8 (n / m % 256) = JC (Nn n i) := by
 subst hm
 have := byteS_val n i h
 unfold JC
 rw [← this]
 rfl
theorem bS0 (n : Int) : Value.int .u8 (n % 256) = JC (Nn n 0) := by
 have := bS n 0 (by decide) 1 (by decide)
 rwa [Int.ediv_one] at this
theorem sz4_cells (n : Int) : [Value.int .u8 (n / 16777216 % 256), .int .u8 (n / 65536 % 256), .int .u8 (n / 256 % 256), .int .u8 (n % 256)] = GK (sz4 n) := by
 rw [bS n 3 (by decide) _ (by decide), bS n 2 (by decide) _ (by decide), bS n 1 (by decide) _ (by decide), bS0]
 rfl
theorem four_any (n : Int) (w : World) :
  Calls Tryz.prog 63 #[.int .i64 n] w fun e w' => ∃ A, e = .returned (.slice A 4 4) ∧ St w w' [.row A 4 4 5 1 (GK (sz4 n))] := by
 have Ga := St.refl w
 go_enter Tryz.func63, Tryz.ntmps63
 go_wp2_with (refine Gq 14 rfl [_, _, _, _] (bs_4 (Gw rfl) (Gw rfl) (Gw rfl) (Gw rfl)) rfl uz22 GF rfl (by (simp [Value.cells]; done)) (by decide) (by decide) ?_; (try clear Gb); intro g14 W14 Gb; replace Ga := Ga.tr1 Gb; simp only [List.flatMap_cons, List.flatMap_nil, List.append_nil, Value.cells, List.toList_toArray] at Ga)
 simp only [Gc, Gd] at Ga
 rw [sz4_cells] at Ga
 go_ret
 exact ⟨_, rfl, Ga⟩
end
section
open Go.RowKit
theorem tkey_any (k : Int) (w : World) : Calls Tryz.prog 89 #[.int .i64 k] w fun e w' => e = .returned (.bool (decide (0 ≤ k ∧ k < 4294967296))) ∧ St w w' [] := by
 have Ga := St.refl w
 by_cases h0 : 0 ≤ k
 ·by_cases h1 : k < 4294967296
  ·rw [decide_eq_true ⟨h0, h1⟩]
   go_enter Tryz.func89, Tryz.ntmps89
   go_wp2_with fail
   go_ret
   exact ⟨rfl, Ga⟩
  ·rw [decide_eq_false (fun h => h1 h.2)]
   go_enter Tryz.func89, Tryz.ntmps89
   go_wp2_with fail
   go_ret
   exact ⟨rfl, Ga⟩
 ·rw [decide_eq_false (fun h => h0 h.1)]
  go_enter Tryz.func89, Tryz.ntmps89
  go_wp2_with fail
  go_ret
  exact ⟨rfl, Ga⟩
theorem mnode_any (l r : Dig) (w : World) (hT : Tb w) : Calls Tryz.prog 95 #[l.v, r.v] w fun e w' => e = .returned (Nf l r).v ∧ St w w' [] := by
 have Ga := St.refl w
 have HT := Gg hT
 have hd : GP [l, r] = l.arr.toList ++ r.arr.toList := by simp [GP, Dig.toList]
 have HD := Gg hd
 clear hT hd
 obtain ⟨m, hm⟩ : ∃ m, m = Nf l r := ⟨_, rfl⟩
 rw [← hm]
 unfold Nf at hm
 by_cases hl : l = GM
 ·have hdl := Gg (decide_eq_true hl)
  by_cases hr : r = GM
  ·have hdr := Gg (decide_eq_true hr)
   rw [if_pos ⟨hl, hr⟩] at hm
   have HM := Gg hm
   clear hm hl hr
   go_enter Tryz.func95, Tryz.ntmps95
   go_upto_region 1 with (go_big_may; first | (refine Gm 2 rfl (Gw rfl) ?_; (try clear Gb); intro g2 W2 Gb; replace Ga := Ga.tr1 Gb) | (refine Gm 3 rfl (Gw rfl) ?_; (try clear Gb); intro g3 W3 Gb; replace Ga := Ga.tr1 Gb) | (refine Gk 4 rfl Gv ?_; (try clear Gb); intro g4 W4 Gb; replace Ga := Ga.tr1 Gb))
   go_upto_region 2 with (go_big_may; first | (refine KC (d := some 6) rfl rfl rfl uz32 GF Gv ?_) | (refine Gk 5 rfl Gv ?_; (try clear Gb); intro g5 W5 Gb; replace Ga := Ga.tr1 Gb) | ((refine Gr 5 6 Ga rfl (by rfl) (Gw rfl) (Dig.one _) Gv (by rfl) 0 rfl (by rfl) ?_; clear Ga; intro WS2 Ga; simp only [Ge, Gf] at Ga)))
   go_upto_region 3 with (go_big_may; first | (refine Gl 7 rfl (by rfl) uz32 rfl Gv (Ga.get 3 rfl) (Dig.size _) ?_) | (refine Gl 8 rfl (by rfl) uz32 rfl Gv (Ga.get 0 rfl) (by rfl) ?_) | (refine MJ (d := some 9) rfl rfl rfl uz32 uz5 GF JG (Gw rfl) (Gw rfl) ?_; (try rw [hdl.out])) | (refine Gl 11 rfl (by rfl) uz32 rfl Gv (Ga.get 2 rfl) (Dig.size _) ?_) | (refine Gl 12 rfl (by rfl) uz32 rfl Gv (Ga.get 0 rfl) (by rfl) ?_) | (refine MJ (d := some 13) rfl rfl rfl uz32 uz5 GF JG (Gw rfl) (Gw rfl) ?_; (try rw [hdr.out])))
   go_wp2_with (first | (refine Gl 15 rfl (by rfl) uz32 rfl Gv (Ga.get 0 rfl) (by rfl) ?_) | ((refine Gr 4 15 Ga rfl (by rfl) (Gw rfl) (Dig.one _) Gv (by rfl) 1 rfl (by rfl) ?_; clear Ga; intro WS1 Ga; simp only [Ge, Gf] at Ga)))
   refine Hw rfl rfl rfl (Ga.get 1 rfl) uz32 rfl Gv (by rfl) ?_
   rw [HM.out]
   exact ⟨rfl, Ga.forget⟩
  ·have hdr := Gg (decide_eq_false hr)
   rw [if_neg (fun h => hr h.2)] at hm
   have HM := Gg hm
   clear hm hl hr
   go_enter Tryz.func95, Tryz.ntmps95
   go_upto_region 1 with (go_big_may; first | (refine Gm 2 rfl (Gw rfl) ?_; (try clear Gb); intro g2 W2 Gb; replace Ga := Ga.tr1 Gb) | (refine Gm 3 rfl (Gw rfl) ?_; (try clear Gb); intro g3 W3 Gb; replace Ga := Ga.tr1 Gb) | (refine Gk 4 rfl Gv ?_; (try clear Gb); intro g4 W4 Gb; replace Ga := Ga.tr1 Gb))
   go_upto_region 2 with (go_big_may; first | (refine KC (d := some 6) rfl rfl rfl uz32 GF Gv ?_) | (refine Gk 5 rfl Gv ?_; (try clear Gb); intro g5 W5 Gb; replace Ga := Ga.tr1 Gb) | ((refine Gr 5 6 Ga rfl (by rfl) (Gw rfl) (Dig.one _) Gv (by rfl) 0 rfl (by rfl) ?_; clear Ga; intro WS2 Ga; simp only [Ge, Gf] at Ga)))
   go_upto_region 4 with (go_big_may; first | (refine Gl 7 rfl (by rfl) uz32 rfl Gv (Ga.get 3 rfl) (Dig.size _) ?_) | (refine Gl 8 rfl (by rfl) uz32 rfl Gv (Ga.get 0 rfl) (by rfl) ?_) | (refine MJ (d := some 9) rfl rfl rfl uz32 uz5 GF JG (Gw rfl) (Gw rfl) ?_; (try rw [hdl.out])) | (refine Gl 11 rfl (by rfl) uz32 rfl Gv (Ga.get 2 rfl) (Dig.size _) ?_) | (refine Gl 12 rfl (by rfl) uz32 rfl Gv (Ga.get 0 rfl) (by rfl) ?_) | (refine MJ (d := some 13) rfl rfl rfl uz32 uz5 GF JG (Gw rfl) (Gw rfl) ?_; (try rw [hdr.out])))
   go_wp2_with (first | (go_at_call 126; (try clear Gb); refine (of_any 10 [l, r] _ _ _ _ (HT.out.of Ga) (by rw [HD.out]; exact Ga.sl 0 rfl) (by decide)).mono ?_; rintro e W8 ⟨rfl, Gb⟩; replace Ga := Ga.keep Gb) | (refine Gl 16 rfl (by rfl) uz32 rfl Gv (Ga.get 3 rfl) (Dig.size _) ?_) | (refine Gl 17 rfl (by rfl) uz32 rfl Gv (Ga.get 2 rfl) (Dig.size _) ?_) | (refine Gq 18 rfl [_, _] (bs_2 (Gw rfl) (Gw rfl)) rfl uz44 Gv rfl (by (simp [Value.cells, Dig.size]; done)) (by decide) (by decide) ?_; (try clear Gb); intro g18 W18 Gb; replace Ga := Ga.tr1 Gb; simp only [List.flatMap_cons, List.flatMap_nil, List.append_nil, Value.cells, List.toList_toArray] at Ga) | ((refine Gr 4 19 Ga rfl (by rfl) (Gw rfl) (Dig.one _) Gv (by rfl) 2 rfl (by rfl) ?_; clear Ga; intro WS4 Ga; simp only [Ge, Gf] at Ga)))
   refine Hw rfl rfl rfl (Ga.get 2 rfl) uz32 rfl Gv (by rfl) ?_
   rw [HM.out]
   exact ⟨rfl, Ga.forget⟩
 ·have hdl := Gg (decide_eq_false hl)
  rw [if_neg (fun h => hl h.1)] at hm
  have HM := Gg hm
  clear hm hl
  go_enter Tryz.func95, Tryz.ntmps95
  go_upto_region 1 with (go_big_may; first | (refine Gm 2 rfl (Gw rfl) ?_; (try clear Gb); intro g2 W2 Gb; replace Ga := Ga.tr1 Gb) | (refine Gm 3 rfl (Gw rfl) ?_; (try clear Gb); intro g3 W3 Gb; replace Ga := Ga.tr1 Gb) | (refine Gk 4 rfl Gv ?_; (try clear Gb); intro g4 W4 Gb; replace Ga := Ga.tr1 Gb))
  go_upto_region 2 with (go_big_may; first | (refine KC (d := some 6) rfl rfl rfl uz32 GF Gv ?_) | (refine Gk 5 rfl Gv ?_; (try clear Gb); intro g5 W5 Gb; replace Ga := Ga.tr1 Gb) | ((refine Gr 5 6 Ga rfl (by rfl) (Gw rfl) (Dig.one _) Gv (by rfl) 0 rfl (by rfl) ?_; clear Ga; intro WS2 Ga; simp only [Ge, Gf] at Ga)))
  go_upto_region 4 with (go_big_may; first | (refine Gl 7 rfl (by rfl) uz32 rfl Gv (Ga.get 3 rfl) (Dig.size _) ?_) | (refine Gl 8 rfl (by rfl) uz32 rfl Gv (Ga.get 0 rfl) (by rfl) ?_) | (refine MJ (d := some 9) rfl rfl rfl uz32 uz5 GF JG (Gw rfl) (Gw rfl) ?_; (try rw [hdl.out])))
  go_wp2_with (first | (go_at_call 126; (try clear Gb); refine (of_any 10 [l, r] _ _ _ _ (HT.out.of Ga) (by rw [HD.out]; exact Ga.sl 0 rfl) (by decide)).mono ?_; rintro e W8 ⟨rfl, Gb⟩; replace Ga := Ga.keep Gb) | (refine Gl 16 rfl (by rfl) uz32 rfl Gv (Ga.get 3 rfl) (Dig.size _) ?_) | (refine Gl 17 rfl (by rfl) uz32 rfl Gv (Ga.get 2 rfl) (Dig.size _) ?_) | (refine Gq 18 rfl [_, _] (bs_2 (Gw rfl) (Gw rfl)) rfl uz44 Gv rfl (by (simp [Value.cells, Dig.size]; done)) (by decide) (by decide) ?_; (try clear Gb); intro g18 W18 Gb; replace Ga := Ga.tr1 Gb; simp only [List.flatMap_cons, List.flatMap_nil, List.append_nil, Value.cells, List.toList_toArray] at Ga) | ((refine Gr 4 19 Ga rfl (by rfl) (Gw rfl) (Dig.one _) Gv (by rfl) 2 rfl (by rfl) ?_; clear Ga; intro WS4 Ga; simp only [Ge, Gf] at Ga)))
  refine Hw rfl rfl rfl (Ga.get 2 rfl) uz32 rfl Gv (by rfl) ?_
  rw [HM.out]
  exact ⟨rfl, Ga.forget⟩
theorem be4_cells (n : Int) : [Value.int .u8 9, .int .u8 (n / 16777216 % 256), .int .u8 (n / 65536 % 256), .int .u8 (n / 256 % 256), .int .u8 (n % 256)] = [Value.int .u8 9, JC (Nn n 3), JC (Nn n 2), JC (Nn n 1), JC (Nn n 0)] := by
 rw [bS n 3 (by decide) _ (by decide), bS n 2 (by decide) _ (by decide), bS n 1 (by decide) _ (by decide), bS0]
theorem be4_bytes (k : Nat) (h : k < 4294967296) : [Value.int .u8 9, JC (Nn (k : Int) 3), JC (Nn (k : Int) 2), JC (Nn (k : Int) 1), JC (Nn (k : Int) 0)] = GK (9 :: Mp 4 k) := by
 have hu : unsN (k : Int) = k := by unfold unsN; omega
 simp [GK, Nn, hu, Mp, List.range_succ, Nat.shiftRight_eq_div_pow]
 rfl
theorem tleafE_any (k : Nat) (d : Dig) (w : World) (hT : Tb w) (hk : k < 4294967296) : Calls Tryz.prog 96 #[.agg (J7 (k : Int) d)] w fun e w' => e = .returned (.tuple #[(K2 k d).v, .nilIface]) ∧ St w w' [] := by
 have Ga := St.refl w
 have HT := Gg hT
 have HB := Gg (be4_bytes k hk)
 have HL := Gg (show GK (9 :: Mp 4 k) ++ d.arr.toList = GK (9 :: (Mp 4 k ++ d.l)) by rw [Dig.toList, ← Hj]; rfl)
 have HK := Gg (fun w : World => by have h := tkey_any (k : Int) w; rw [decide_eq_true (show 0 ≤ (k : Int) ∧ (k : Int) < 4294967296 by omega)] at h; exact h)
 clear hT hk
 go_enter Tryz.func96, Tryz.ntmps96
 go_upto_region 1 with (go_big_may; first | (refine Gm 1 rfl (Gw rfl) ?_; (try clear Gb); intro g1 W1 Gb; replace Ga := Ga.tr1 Gb) | (refine Gk 2 rfl Gv ?_; (try clear Gb); intro g2 W2 Gb; replace Ga := Ga.tr1 Gb))
 go_upto_region 3 with (go_big_may; first | (go_at_call 89; (try clear Gb); refine (HK.out _).mono ?_; rintro e Wk ⟨rfl, Gb⟩; replace Ga := Ga.keep Gb) | (refine Gj 6 rfl (by rfl) uz3 rfl (Gy (Ga.get 1 rfl) MF) ?_))
 go_upto_region 4 with (go_big_may; first | (refine Gj 12 rfl (by rfl) uz3 rfl (Gy (Ga.get 1 rfl) MF) ?_) | (refine Gj 16 rfl (by rfl) uz3 rfl (Gy (Ga.get 1 rfl) MF) ?_) | (refine Gj 20 rfl (by rfl) uz3 rfl (Gy (Ga.get 1 rfl) MF) ?_) | (refine Gj 24 rfl (by rfl) uz3 rfl (Gy (Ga.get 1 rfl) MF) ?_) | (refine Gq 26 rfl [_, _, _, _, _] (bs_5 GT (Gw rfl) (Gw rfl) (Gw rfl) (Gw rfl)) rfl uz22 GF rfl (by (simp [Value.cells]; done)) (by decide) (by decide) ?_; (try clear Gb); intro g26 W26 Gb; replace Ga := Ga.tr1 Gb; simp only [List.flatMap_cons, List.flatMap_nil, List.append_nil, Value.cells, List.toList_toArray] at Ga))
 simp only [Gc, Gd] at Ga
 rw [be4_cells k] at Ga
 rw [HB.out] at Ga
 clear Gb
 go_wp2_with (first | (refine K7 (d := some 29) rfl rfl rfl (by rfl) uz32 GF (prArr_range (Ga.get 2 rfl)) (Dig.size _) (by decide) ?_; intro hs29) | (go_at_call 80; (try clear Gb); refine (NS (List.cons 9 (Mp 4 k ++ d.l)) _ _ _ _ (HT.out.of Ga) (by rw [← HL.out]; exact Ga.sl 0 rfl) (by decide)).mono ?_; rintro e Wk1 ⟨rfl, Gb⟩; replace Ga := Ga.keep Gb) | (refine GY (d := some 30) rfl rfl Ga rfl (by rfl) (by rfl) uz22 GF rfl (by decide) (by decide) 0 rfl (by rfl) (hs29) (GX) (by omega) ?_; clear Ga; intro A30 c30 W30 Ga; simp only [Ge, Gf, List.nil_append, Nat.zero_add] at Ga) | ((refine Gr 2 31 Ga rfl (by rfl) (Gw rfl) (Dig.one _) Gv (by rfl) 1 rfl (by rfl) ?_; clear Ga; intro WS5 Ga; simp only [Ge, Gf, HL.out] at Ga)))
 refine He rfl rfl rfl rfl (Ga.get 1 rfl) uz32 rfl Gv (by rfl) ?_
 exact ⟨rfl, Ga.forget⟩
end
section
open Go.RowKit Go.Shelf
theorem nmP_is (r : Nat) (b : Bool) (h : b = !decide (97 ≤ r ∧ r ≤ 122 ∨ 48 ≤ r ∧ r ≤ 57 ∨ r = 45)) : Value.bool (nmP r) = .bool b := by rw [h]; rfl
theorem named_pred (w : World) : PredAt Tryz.prog 79 #[] encR nmP w := fun W r _ => by
 unfold FnGives
 by_cases a1 : r < 97
 ·have z1 : (r : Int) < 97 := by omega
  by_cases b1 : r < 48
  ·have z2 : (r : Int) < 48 := by omega
   by_cases c1 : r = 45
   ·subst c1
    go_enter Tryz.func79, Tryz.ntmps79
    go_wp2
    go_ret
    exact ⟨rfl, 0, rfl⟩
   ·have z3 : ((r : Int) != 45) = true := by rw [bne_iff_ne]; omega
    go_enter Tryz.func79, Tryz.ntmps79
    go_wp2
    go_ret
    exact ⟨congrArg _ (nmP_is r true (by rw [decide_eq_false (by omega)]; rfl)).symm, 0, rfl⟩
  ·have z2 : ¬ (r : Int) < 48 := by omega
   by_cases b2 : 57 < r
   ·have z4 : (57 : Int) < (r : Int) := by omega
    have z3 : ((r : Int) != 45) = true := by rw [bne_iff_ne]; omega
    go_enter Tryz.func79, Tryz.ntmps79
    go_wp2
    go_ret
    exact ⟨congrArg _ (nmP_is r true (by rw [decide_eq_false (by omega)]; rfl)).symm, 0, rfl⟩
   ·have z4 : ¬ (57 : Int) < (r : Int) := by omega
    go_enter Tryz.func79, Tryz.ntmps79
    go_wp2
    go_ret
    exact ⟨congrArg _ (nmP_is r false (by rw [decide_eq_true (by omega)]; rfl)).symm, 0, rfl⟩
 ·have z1 : ¬ (r : Int) < 97 := by omega
  by_cases a2 : 122 < r
  ·have z5 : (122 : Int) < (r : Int) := by omega
   have z2 : ¬ (r : Int) < 48 := by omega
   have z4 : (57 : Int) < (r : Int) := by omega
   have z3 : ((r : Int) != 45) = true := by rw [bne_iff_ne]; omega
   go_enter Tryz.func79, Tryz.ntmps79
   go_wp2
   go_ret
   exact ⟨congrArg _ (nmP_is r true (by rw [decide_eq_false (by omega)]; rfl)).symm, 0, rfl⟩
  ·have z5 : ¬ (122 : Int) < (r : Int) := by omega
   go_enter Tryz.func79, Tryz.ntmps79
   go_wp2
   go_ret
   exact ⟨congrArg _ (nmP_is r false (by rw [decide_eq_true (by omega)]; rfl)).symm, 0, rfl⟩
theorem JW (l : List UInt8) (w : World) : Calls Tryz.prog 34 #[.string (GZ l)] w fun e w' => e = .returned (.bool (JM l)) ∧ St w w' [] := by
 have Ga := St.refl w
 have HC := Gg (fun w : World => Tryz.strings_ContainsFunc 79 #[] (enters_of Tryz.func79 (by kernel_rfl) rfl) nmP (GZ l) w (named_pred w))
 rw [name_idx] at HC
 have hz := Hf l
 obtain ⟨b, hb⟩ : ∃ b, b = JM l := ⟨_, rfl⟩
 rw [← hb]
 unfold JM at hb
 cases l with
 | nil =>
  have h0 := bsOf_nil
  go_enter Tryz.func34, Tryz.ntmps34
  go_wp2_with fail
  go_ret
  exact ⟨by rw [hb]; rfl, Ga⟩
 | cons a l =>
  have hne := NA (List.cons_ne_nil a l)
  by_cases h30 : (a :: l).length ≤ 30
  ·rw [decide_eq_true ⟨by simp, h30⟩, Bool.true_and] at hb
   generalize GZ (a :: l) = s at *
   have hs : ¬ (30 : Int) < (s.size : Int) := by omega
   generalize (a :: l).all okB = r at *
   clear h30 hz
   have HB := Gg hb
   clear hb
   go_enter Tryz.func34, Tryz.ntmps34
   go_wp2_with ((go_at_call 78; refine (HC.out _).mono ?_; rintro e Wc ⟨rfl, Gb⟩))
   go_ret
   exact ⟨by rw [HB.out]; rfl, ⟨Gb, by simp, by simp, List.Pairwise.nil⟩⟩
  ·rw [decide_eq_false (fun h => h30 h.2), Bool.false_and] at hb
   generalize GZ (a :: l) = s at *
   have hs : (30 : Int) < (s.size : Int) := by omega
   generalize (a :: l).all okB = r at *
   clear h30 hz
   have HB := Gg hb
   clear hb
   go_enter Tryz.func34, Tryz.ntmps34
   go_wp2_with fail
   go_ret
   exact ⟨by rw [HB.out]; rfl, Ga⟩
end
section
open Go.ChangeShapes Go.WideShapes Go.ChangeAt Go.RowKit Go.Deep
abbrev PG := Option Addr × Nat × Nat × List UInt8
def PG.v (p : PG) : Value := .slice p.1 p.2.1 p.2.2.1
section
variable {P : Program} {H : Type} {enc : TypeId × Value → H} {W : World} {base : Nat} {spare : Nat → Bool} {held : Bool}
instance : Inhabited PG := ⟨(none, 0, 0, [])⟩
end
end
section
open Go.RowKit
def K1 (ps : List PG) : List UInt8 := ps.flatMap fun p => p.2.2.2
theorem allPc_take (ps : List PG) (i : Nat) (h : i < ps.length) : K1 (ps.take (i + 1)) = K1 (ps.take i) ++ (ps[i]).2.2.2 := by
 unfold K1
 rw [List.take_succ_eq_append_getElem h, List.flatMap_append, List.flatMap_cons, List.flatMap_nil, List.append_nil]
theorem allPc_take_le (ps : List PG) (i : Nat) : (K1 (ps.take i)).length ≤ (K1 ps).length := by
 have : K1 ps = K1 (ps.take i) ++ K1 (ps.drop i) := by
  rw [K1, K1, K1, ← List.flatMap_append, List.take_append_drop]
 rw [this, List.length_append]
 omega
def piecesL (ps : List PG) : List Value := ps.map PG.v
theorem piece_at {W : World} {g off i : Nat} {ps : List PG} (h : W.rangeAt g (off + (i : Int).toNat * 1) (((piecesL ps).drop ((i : Int).toNat * 1)).take 1)) (hi : i < ps.length) : W.cell? ⟨g, off + (i : Int).toNat * 1, none⟩ = some (.slice ps[i].1 ps[i].2.1 ps[i].2.2.1) := by
 have := h 0 ps[i].v (by simp [piecesL, hi])
 simpa [PG.v] using this
theorem growB_any (n : Nat) (w : World) (hn : n ≤ 140737488355328) :
  Calls Tryz.prog 103 #[.slice none 0 0, .int .i64 (n : Int)] w fun e w' => ∃ O c, e = .returned (.slice O 0 c) ∧ St w w' [.row O 0 c 5 1 []] := by
 by_cases h0 : n = 0
 ·subst h0
  have Ga := St.refl w
  go_enter Tryz.func103, Tryz.ntmps103
  go_wp2_with (fail)
  go_ret
  exact ⟨none, 0, rfl, Ga.nilRow _ 1⟩
 ·obtain ⟨i, hi, hiz, his, hib⟩ := GF.parts
  have hrz : ∀ ty, (Builtin.append_ #[22, 3] ty #[.slice none 0 0, .int .i64 (n : Int)]).run Tryz.prog w =
    .ok (.slice (some ⟨w.heap.size, 0, none⟩) n (grownCap w n 0 5)) (w.drew.alloc (.cells (Builtin.zeroCells (Value.int .u8 0).cells n ++ Builtin.zeroCells (Value.int .u8 0).cells (grownCap w n 0 5 - n)) 5)) := fun ty => by
   have h := Lib.run_append_grow_zeros w 22 3 ty 5 i _ .i64 .i64 uz22 uz3 hi hiz none 0 0 [] (run_firstCells_none w.drew i.size 0 0 0) n (by omega) (by rw [his]; decide) (by omega) (by omega) (by rw [hib]; omega) (growslice_fits (by omega) (by rw [hib]; omega))
   simpa using h
  have hge : n ≤ grownCap w n 0 5 := grownCap_ge w _ _ _
  have hcm := grownCap_le_maxLen w n 0 5 (by unfold maxLen; omega)
  have Ga : St w (w.drew.alloc (.cells (Builtin.zeroCells (Value.int .u8 0).cells n ++ Builtin.zeroCells (Value.int .u8 0).cells (grownCap w n 0 5 - n)) 5)) [.row (some ⟨w.heap.size, 0, none⟩) 0 (grownCap w n 0 5) 5 1 []] :=
   ((St.refl w).drew).allocRow 5 ⟨by simp, by omega, hcm, by simp [size_zeroCells, Value.cells]; omega, fun j v hv => by simp at hv⟩
  obtain ⟨G, hG⟩ : ∃ G, G = grownCap w n 0 5 := ⟨_, rfl⟩
  rw [← hG] at hrz hge hcm Ga
  simp only [maxLen] at hcm
  clear hG
  have h1 : ¬ (n : Int) < 0 := by omega
  have h3 : wrap64 ((n : Int) - 0) = (n : Int) := by unfold wrap64; omega
  have h4 : (0 : Int) < (n : Int) := by omega
  go_enter Tryz.func103, Tryz.ntmps103
  go_wp2_with (at_builtin; refine Lib.wpList_append_run _ rfl _ _ _ _ rfl _ _ rfl rfl _ _ (hrz _) ?_)
  all_goals
   go_ret
   exact ⟨_, _, rfl, Ga⟩
theorem concat_any (ps : List PG) (A : Option Addr) (n c : Nat) (w : World) (hs : SlR w A n c 1 (piecesL ps)) (hp : ∀ p ∈ ps, SlR w p.1 p.2.1 p.2.2.1 1 (GK p.2.2.2)) (hb : (K1 ps).length ≤ 140737488355328) :
  Calls Tryz.prog 62 #[.slice A n c] w fun e w' => ∃ O oc, e = .returned (.slice O (K1 ps).length oc) ∧ St w w' [.row O (K1 ps).length oc 5 1 (GK (K1 ps))] := by
 have Ga := St.refl w
 have hnl := hs.1
 rw [piecesL, List.length_map, Nat.mul_one] at hnl
 have Hnl := Gg hnl
 have Hp := Gg hp
 have Hb := Gg hb
 have hcm := hs.2.2.1
 have hnc := hs.2.1
 simp only [maxLen] at hcm
 clear hnl hp hb
 go_enter Tryz.func62, Tryz.ntmps62
 go_wp2_with (fail)
 go_loopg [3, 11] n (fun gk s3 s11 wr => ∃ (i m : Nat), Hid (i + gk = n) ∧ Hid ((K1 (ps.take i)).length = m) ∧ m ≤ 140737488355328 ∧ s3 = .int .i64 (m : Int) ∧ s11 = .int .i64 (i : Int) ∧ St w wr [])
 case atStart => exact ⟨0, 0, Gg (by omega), Lib.hid rfl, by omega, rfl, rfl, Ga⟩
 case round =>
  clear Ga
  obtain ⟨i, m, HI, HM, hm, rfl, rfl, Ga⟩ := hrel
  have hi := HI.out
  by_cases hin : i < n
  ·clear hi
   have hil := Gg (show i < ps.length by rw [Hnl.out]; exact hin)
   have HC := Gg (fun (W : World) (g off : Nat) h => piece_at (W := W) (g := g) (off := off) (i := i) (ps := ps) h hil.out)
   have HA := Gg (allPc_take ps i hil.out)
   have hle := allPc_take_le ps (i + 1)
   have hbb := Hb.out
   have hpl := (Hp.out ps[i] (List.getElem_mem hil.out)).1
   rw [HA.out, List.length_append, HM.out] at hle
   generalize ps[i]'hil.out = q at HC HA hle hpl
   obtain ⟨PA, pn, pc, pl⟩ := q
   dsimp only at HC HA hle hpl
   simp only [G7, Nat.mul_one] at hle hpl
   have hmp : m + pn ≤ 140737488355328 := by omega
   have Hpl := Gg hpl
   clear hle hbb hpl
   go_wp2_with (first | (refine Gj 14 rfl (by rfl) uz22 rfl (HC.out _ _ _ hr13) ?_) | (refine Gp 13 rfl (by rfl) (by rfl) uz162 K6 (Ga.old (by decide) hs) (by omega) (by omega) ?_; intro o13 p13 ha13 hr13; ((subst ha13))))
   all_goals
    go_roundg (gk - 1)
    case measure => have hi := HI.out; omega
    case rel =>
     have hi := HI.out
     exact ⟨i + 1, m + pn, Gg (by omega), Gg (by rw [HA.out, List.length_append, HM.out, Hpl.out]), hmp, by go_num, by go_num, Ga⟩
  ·obtain rfl : i = n := by omega
   clear hi HI
   have HL := Gg (show (K1 ps).length = m by rw [← HM.out, List.take_of_length_le (by rw [Hnl.out]; exact Nat.le_refl _)])
   clear HM
   go_wp2_with ((go_at_call 103; (try clear Gb); refine (growB_any m _ hm).mono ?_; rintro e Wk1 ⟨O24, c24, rfl, Gb⟩; replace Ga := Ga.trans Gb; simp only [Gc, Gd] at Ga))
   (try clear Gb)
   go_loopg [6, 27] i (fun gk s6 s27 wr => ∃ (j q oc : Nat) (O : Option Addr), Hid (j + gk = i) ∧ Hid ((K1 (ps.take j)).length = q) ∧ s6 = .slice O q oc ∧ s27 = .int .i64 (j : Int) ∧ St w wr [.row O q oc 5 1 (GK (K1 (ps.take j)))])
   case atStart => exact ⟨0, 0, _, _, Gg (by omega), Lib.hid rfl, rfl, rfl, Ga⟩
   case round =>
    clear Ga
    obtain ⟨j, q, oc, O, HJ, HQ, rfl, rfl, Ga⟩ := hrel
    have hj := HJ.out
    by_cases hjn : j < i
    ·clear hj
     have hil := Gg (show j < ps.length by rw [Hnl.out]; exact hjn)
     have HC := Gg (fun (W : World) (g off : Nat) h => piece_at (W := W) (g := g) (off := off) (i := j) (ps := ps) h hil.out)
     have HP := Hp.out (ps[j]'hil.out) (List.getElem_mem hil.out)
     have HA := Gg (allPc_take ps j hil.out)
     have hle := allPc_take_le ps (j + 1)
     have hbb := Hb.out
     have hpl := HP.1
     rw [HA.out, List.length_append, HQ.out] at hle
     generalize ps[j]'hil.out = r at HC HP HA hle hpl
     obtain ⟨PA, pn, pc, pl⟩ := r
     dsimp only at HC HP HA hle hpl
     simp only [G7, Nat.mul_one] at hle hpl
     have hmp : q + pn ≤ 140737488355328 := by omega
     have Hpl := Gg hpl
     clear hle hbb hpl
     generalize hal : K1 (ps.take j) = al at Ga
     go_wp2_with (first | (refine Gj 30 rfl (by rfl) uz22 rfl (HC.out _ _ _ hr29) ?_) | (refine Gp 29 rfl (by rfl) (by rfl) uz162 K6 (Ga.old (by decide) hs) (by omega) (by omega) ?_; intro o29 p29 ha29 hr29; ((subst ha29))) | (refine GY (d := some 33) rfl rfl Ga rfl (by rfl) (by rfl) uz22 GF rfl (by decide) (by decide) 0 rfl (by rfl) (Ga.old (by decide) HP) (GX) (by omega) ?_; clear Ga; intro A33 c33 W33 Ga; simp only [Ge, Gf, List.nil_append, Nat.zero_add] at Ga))
     go_roundg (gk - 1)
     case measure => have hj := HJ.out; omega
     case rel =>
      have hj := HJ.out
      refine ⟨j + 1, q + pn, _, _, Gg (by omega), Gg (by rw [HA.out, List.length_append, HQ.out, Hpl.out]), rfl, by go_num, ?_⟩
      rw [HA.out, Hj, hal]
      exact Ga
    ·obtain rfl : j = i := by omega
     clear hj HJ
     have hall : K1 (ps.take j) = K1 ps := by rw [List.take_of_length_le (by rw [Hnl.out]; exact Nat.le_refl _)]
     rw [hall] at Ga
     obtain rfl : (K1 ps).length = q := by rw [← HQ.out, hall]
     clear hall HQ
     go_wp2_with (fail)
     go_ret
     exact ⟨_, _, rfl, Ga⟩
theorem concat3_any (l1 l2 l3 : List UInt8) (B1 B2 B3 : Option Addr) (n1 c1 n2 c2 n3 c3 : Nat) (A : Option Addr) (c : Nat) (w : World) (hs : SlR w A 3 c 1 [.slice B1 n1 c1, .slice B2 n2 c2, .slice B3 n3 c3])
  (h1 : SlR w B1 n1 c1 1 (GK l1)) (h2 : SlR w B2 n2 c2 1 (GK l2)) (h3 : SlR w B3 n3 c3 1 (GK l3)) (hb : n1 + n2 + n3 ≤ 140737488355328) :
  Calls Tryz.prog 62 #[.slice A 3 c] w fun e w' => ∃ O oc, e = .returned (.slice O (n1 + n2 + n3) oc) ∧ St w w' [.row O (n1 + n2 + n3) oc 5 1 (GK (l1 ++ (l2 ++ l3)))] := by
 have e1 := h1.1
 have e2 := h2.1
 have e3 := h3.1
 rw [G7, Nat.mul_one] at e1 e2 e3
 have hl : K1 [((B1, n1, c1, l1) : PG), (B2, n2, c2, l2), (B3, n3, c3, l3)] = l1 ++ (l2 ++ l3) := by simp [K1]
 have hn : (l1 ++ (l2 ++ l3)).length = n1 + n2 + n3 := by rw [List.length_append, List.length_append]; omega
 have := concat_any [((B1, n1, c1, l1) : PG), (B2, n2, c2, l2), (B3, n3, c3, l3)] A 3 c w hs (by
  intro p hp
  simp only [List.mem_cons, List.not_mem_nil, or_false] at hp
  rcases hp with rfl | rfl | rfl
  ·exact h1
  ·exact h2
  ·exact h3) (by rw [hl, hn]; exact hb)
 rw [hl, hn] at this
 exact this
theorem concat4_any (l1 l2 l3 l4 : List UInt8) (B1 B2 B3 B4 : Option Addr) (n1 c1 n2 c2 n3 c3 n4 c4 : Nat) (A : Option Addr) (c : Nat) (w : World) (hs : SlR w A 4 c 1 [.slice B1 n1 c1, .slice B2 n2 c2, .slice B3 n3 c3, .slice B4 n4 c4])
  (h1 : SlR w B1 n1 c1 1 (GK l1)) (h2 : SlR w B2 n2 c2 1 (GK l2)) (h3 : SlR w B3 n3 c3 1 (GK l3)) (h4 : SlR w B4 n4 c4 1 (GK l4)) (hb : n1 + n2 + n3 + n4 ≤ 140737488355328) :
  Calls Tryz.prog 62 #[.slice A 4 c] w fun e w' => ∃ O oc, e = .returned (.slice O (n1 + n2 + n3 + n4) oc) ∧ St w w' [.row O (n1 + n2 + n3 + n4) oc 5 1 (GK (l1 ++ (l2 ++ (l3 ++ l4))))] := by
 have e1 := h1.1
 have e2 := h2.1
 have e3 := h3.1
 have e4 := h4.1
 rw [G7, Nat.mul_one] at e1 e2 e3 e4
 have hl : K1 [((B1, n1, c1, l1) : PG), (B2, n2, c2, l2), (B3, n3, c3, l3), (B4, n4, c4, l4)] = l1 ++ (l2 ++ (l3 ++ l4)) := by simp [K1]
 have hn : (l1 ++ (l2 ++ (l3 ++ l4))).length = n1 + n2 + n3 + n4 := by rw [List.length_append, List.length_append, List.length_append]; omega
 have := concat_any [((B1, n1, c1, l1) : PG), (B2, n2, c2, l2), (B3, n3, c3, l3), (B4, n4, c4, l4)] A 4 c w hs (by
  intro p hp
  simp only [List.mem_cons, List.not_mem_nil, or_false] at hp
  rcases hp with rfl | rfl | rfl | rfl
  ·exact h1
  ·exact h2
  ·exact h3
  ·exact h4) (by rw [hl, hn]; exact hb)
 rw [hl, hn] at this
 exact this
end
section
open Go.RowKit
theorem shr_cell (n k : Nat) : ((n : Int) / (2 : Int) ^ (8 * k)) = ((n >>> (8 * k) : Nat) : Int) := by
 rw [Nat.shiftRight_eq_div_pow]
 simp
theorem oput_any (n size : Nat) (w : World) (h1 : 1 ≤ size) (h8 : size ≤ 8) (hn : n ≤ 9223372036854775807) (hfit : size < 8 → n >>> (8 * size) = 0) :
  Calls Tryz.prog 60 #[.int .i64 (n : Int), .int .i64 (size : Int)] w fun e w' => ∃ A, e = .returned (.tuple #[.slice A size size, .nilIface]) ∧ St w w' [.row A size size 5 1 (GK (Mp size n))] := by
 have Ga := St.refl w
 have t1 : ¬ (size : Int) < 1 := by omega
 have t2 : ¬ (8 : Int) < (size : Int) := by omega
 have t3 : ¬ (n : Int) < 0 := by omega
 by_cases hs8 : size < 8
 ·have hz : (n : Int) / (2 : Int) ^ (8 * size) = 0 := by rw [shr_cell, hfit hs8]; rfl
  clear hfit
  go_enter Tryz.func60, Tryz.ntmps60
  go_wp2_with (refine L_makeS (d := some 31) rfl rfl rfl (by rfl) (by rfl) uz22 GF rfl (by omega) (by (simp only [maxLen]; omega)) ?_; (try clear Gb); intro g31 W31 Gb; replace Ga := Ga.tr1 Gb)
  clear Gb
  have Ga : St w W31 [.row g31 size size 5 1 (putL size n size)] := by rw [putL_start]; exact Ga
  go_loopg [7, 34] size (fun gk s7 s34 wr => ∃ m k : Nat, Hid (m = gk) ∧ Hid (m + k = size) ∧ s34 = .int .i64 (k : Int) ∧ St w wr [.row g31 size size 5 1 (putL size n m)])
  case atStart => exact ⟨size, 0, Lib.hid rfl, Lib.hid rfl, rfl, Ga⟩
  case round =>
   clear Ga
   obtain ⟨m, k, HG, HK, rfl, Ga⟩ := hrel
   have hk := HK.out
   by_cases hm : 0 < m
   ·obtain ⟨m, rfl⟩ : ∃ m', m = m' + 1 := ⟨m - 1, by omega⟩
    have HS := Gg (putL_set size n m (by omega))
    rw [show size - 1 - m = k by omega] at HS
    have hks : k < size := by omega
    have hms : m < size := by omega
    have hidx : (size : Int) - 1 - (k : Int) = (m : Int) := by omega
    have HCell := Gg (shr_cell n k)
    clear hk
    go_wp2_with (first | (refine MZ (d := some 47) rfl rfl Ga rfl (by rfl) (by rfl) uz22 GF 0 rfl (by rfl) (by omega) (by omega) ?_; intro o47 p47 ha47; ((subst ha47))) | (refine GB (.store 5 (.tmp 47) (.tmp 46)) rfl ?_; (refine Mv rfl rfl Ga rfl (by rfl) (Gw rfl) rfl GF 0 rfl (by (omega)) ?_; clear Ga; intro WS11 Ga; simp only [Ge, Gf] at Ga)))
    go_roundg (gk - 1)
    case measure => have hg := HG.out; omega
    case rel =>
     have hg := HG.out
     have hk := HK.out
     refine ⟨m, k + 1, Gg (by omega), Gg (by omega), by go_num, ?_⟩
     rw [← HS.out]
     rw [HCell.out] at Ga
     simpa using Ga
   ·obtain rfl : m = 0 := by omega
    obtain rfl : k = size := by omega
    clear hk HG HK
    go_wp2_with (fail)
    rw [putL_end] at Ga
    go_ret2
    exact ⟨_, rfl, Ga⟩
 ·clear hfit
  go_enter Tryz.func60, Tryz.ntmps60
  go_wp2_with (refine L_makeS (d := some 31) rfl rfl rfl (by rfl) (by rfl) uz22 GF rfl (by omega) (by (simp only [maxLen]; omega)) ?_; (try clear Gb); intro g31 W31 Gb; replace Ga := Ga.tr1 Gb)
  clear Gb
  have Ga : St w W31 [.row g31 size size 5 1 (putL size n size)] := by rw [putL_start]; exact Ga
  go_loopg [7, 34] size (fun gk s7 s34 wr => ∃ m k : Nat, Hid (m = gk) ∧ Hid (m + k = size) ∧ s34 = .int .i64 (k : Int) ∧ St w wr [.row g31 size size 5 1 (putL size n m)])
  case atStart => exact ⟨size, 0, Lib.hid rfl, Lib.hid rfl, rfl, Ga⟩
  case round =>
   clear Ga
   obtain ⟨m, k, HG, HK, rfl, Ga⟩ := hrel
   have hk := HK.out
   by_cases hm : 0 < m
   ·obtain ⟨m, rfl⟩ : ∃ m', m = m' + 1 := ⟨m - 1, by omega⟩
    have HS := Gg (putL_set size n m (by omega))
    rw [show size - 1 - m = k by omega] at HS
    have hks : k < size := by omega
    have hms : m < size := by omega
    have hidx : (size : Int) - 1 - (k : Int) = (m : Int) := by omega
    have HCell := Gg (shr_cell n k)
    clear hk
    go_wp2_with (first | (refine MZ (d := some 47) rfl rfl Ga rfl (by rfl) (by rfl) uz22 GF 0 rfl (by rfl) (by omega) (by omega) ?_; intro o47 p47 ha47; ((subst ha47))) | (refine GB (.store 5 (.tmp 47) (.tmp 46)) rfl ?_; (refine Mv rfl rfl Ga rfl (by rfl) (Gw rfl) rfl GF 0 rfl (by (omega)) ?_; clear Ga; intro WS11 Ga; simp only [Ge, Gf] at Ga)))
    go_roundg (gk - 1)
    case measure => have hg := HG.out; omega
    case rel =>
     have hg := HG.out
     have hk := HK.out
     refine ⟨m, k + 1, Gg (by omega), Gg (by omega), by go_num, ?_⟩
     rw [← HS.out]
     rw [HCell.out] at Ga
     simpa using Ga
   ·obtain rfl : m = 0 := by omega
    obtain rfl : k = size := by omega
    clear hk HG HK
    go_wp2_with (fail)
    rw [putL_end] at Ga
    go_ret2
    exact ⟨_, rfl, Ga⟩
def putNo (n size : Int) : Prop := size < 1 ∨ 8 < size ∨ n < 0 ∨ size < 8 ∧ 0 < n / (2 : Int) ^ (8 * size.toNat)
theorem oput_no (n size : Int) (w : World) (hn1 : -9223372036854775808 ≤ n) (hn2 : n ≤ 9223372036854775807) (hs1 : -9223372036854775808 ≤ size) (hs2 : size ≤ 9223372036854775807) (h : putNo n size) :
  Calls Tryz.prog 60 #[.int .i64 n, .int .i64 size] w fun e w' => e = .returned (.tuple #[.slice none 0 0, JL 2]) ∧ St w w' [] := by
 have Ga := St.refl w
 unfold putNo at h
 by_cases c1 : size < 1
 ·clear h
  go_enter Tryz.func60, Tryz.ntmps60
  go_wp2_with fail
  go_ret2
  exact ⟨rfl, Ga⟩
 by_cases c2 : 8 < size
 ·clear h
  go_enter Tryz.func60, Tryz.ntmps60
  go_wp2_with fail
  go_ret2
  exact ⟨rfl, Ga⟩
 by_cases c3 : n < 0
 ·clear h
  go_enter Tryz.func60, Tryz.ntmps60
  go_wp2_with fail
  go_ret2
  exact ⟨rfl, Ga⟩
 ·obtain ⟨c4, c5⟩ := ((h.resolve_left c1).resolve_left c2).resolve_left c3
  obtain ⟨z, rfl⟩ := Int.eq_ofNat_of_zero_le (show 0 ≤ size by omega)
  obtain ⟨k, rfl⟩ := Int.eq_ofNat_of_zero_le (show 0 ≤ n by omega)
  simp only [Int.toNat_natCast] at c5
  obtain ⟨v, hv⟩ : ∃ v, (k : Int) / (2 : Int) ^ (8 * z) = v := ⟨_, rfl⟩
  rw [hv] at c5
  clear h
  go_enter Tryz.func60, Tryz.ntmps60
  go_wp2_with fail
  go_ret2
  exact ⟨rfl, Ga⟩
end
section
open Go.RowKit
theorem sz4_big (n : Nat) (h : n < 4294967296) : sz4 (n : Int) = Mp 4 n := by
 have hu : unsN (n : Int) = n := by unfold unsN; omega
 simp [sz4, Nn, hu, Mp, List.range_succ, Nat.shiftRight_eq_div_pow]
theorem tag_any (key : List UInt8) (K : Option Addr) (m mc : Nat) (n : Int) (x y z : Dig) (w : World) (hn1 : -9223372036854775808 ≤ n) (hn2 : n ≤ 9223372036854775807) (hT : Tb w) (hk : SlR w K m mc 1 (GK key)) (hm : m ≤ 140737488355000) :
  Calls Tryz.prog 24 #[.slice K m mc, .agg (H9 n x y z)] w fun e w' => e = .returned (tagN key n x y).v ∧ St w w' [] := by
 have Ga := St.refl w
 have HT := Gg hT
 clear hT
 by_cases hp : putNo n 4
 ·have HP := Gg (fun w => oput_no n 4 w hn1 hn2 (by decide) (by decide) hp)
  clear hp hn1 hn2
  go_enter Tryz.func24, Tryz.ntmps24
  go_upto_region 1 with (first | (refine Gm 3 rfl (Gw rfl) ?_; (try clear Gb); intro g3 W3 Gb; replace Ga := Ga.tr1 Gb) | (refine Gk 4 rfl Gv ?_; (try clear Gb); intro g4 W4 Gb; replace Ga := Ga.tr1 Gb))
  go_upto_region 2 with (first | (go_at_call 60; refine (HP.out _).mono ?_; unfold JL; rintro e Wp ⟨rfl, Gb⟩; replace Ga := Ga.keep Gb; clear Gb) | (refine Gj 9 rfl (by rfl) uz3 rfl (Gy (Ga.get 1 rfl) GQ) ?_))
  go_upto_region 3 with (fail)
  go_upto_region 4 with (first | (refine Gj 16 rfl (by rfl) uz3 rfl (Gy (Ga.get 1 rfl) GQ) ?_) | (refine Gj 20 rfl (by rfl) uz3 rfl (Gy (Ga.get 1 rfl) GQ) ?_) | (refine Gj 24 rfl (by rfl) uz3 rfl (Gy (Ga.get 1 rfl) GQ) ?_) | (refine Gj 28 rfl (by rfl) uz3 rfl (Gy (Ga.get 1 rfl) GQ) ?_) | (refine Gq 30 rfl [_, _, _, _] (bs_4 (Gw rfl) (Gw rfl) (Gw rfl) (Gw rfl)) rfl uz22 GF rfl (by (simp [Value.cells]; done)) (by decide) (by decide) ?_; (try clear Gb); intro g30 W30 Gb; replace Ga := Ga.tr1 Gb; simp only [List.flatMap_cons, List.flatMap_nil, List.append_nil, Value.cells, List.toList_toArray] at Ga))
  simp only [Gc, Gd] at Ga
  rw [sz4_cells] at Ga
  clear Gb HP
  refine GO [(0, 0), (1, 0), (2, 0), (3, 0), (4, 2), (5, 2), (6, 2), (7, 2), (8, 2), (9, 1)] (by kernel_rfl) (by kernel_rfl) ?_
  replace Ga := Ga.drew
  refine GG rfl rfl ?_; go_wp2_with fail
  refine GG rfl rfl ?_; go_wp2_with fail
  refine H8 rfl rfl (by kernel_rfl) ?_; go_wp2_with fail
  refine GG rfl rfl ?_; go_wp2_with (refine K7 (d := some 34) rfl rfl rfl (by rfl) uz32 GF (Hy (Ga.get 2 rfl)) (Dig.size _) (by decide) ?_; intro hs34)
  refine GA rfl ?_; go_wp2_with fail; refine Gh ?_
  refine GA rfl ?_; go_wp2_with (refine K7 (d := some 36) rfl rfl rfl (by rfl) uz32 GF (Jt (Ga.get 2 rfl)) (Dig.size _) (by decide) ?_; intro hs36); refine Gh ?_
  refine GA rfl ?_; go_wp2_with (refine Gq 37 rfl [_, _, _] (bs_3 (Gw rfl) (Gw rfl) (Gw rfl)) rfl uz162 K6 rfl (by (simp [Value.cells]; done)) (by decide) (by decide) ?_; (try clear Gb); intro g37 W37 Gb; replace Ga := Ga.tr1 Gb; simp only [List.flatMap_cons, List.flatMap_nil, List.append_nil, Value.cells, List.toList_toArray] at Ga); refine Gi Gb ?_
  refine GA rfl ?_; go_wp2_with ((go_at_call 62; have h34 := Gb.old (by decide) hs34; have h36 := Gb.old (by decide) hs36; clear Gb; refine (concat3_any (sz4 n) x.l y.l _ _ _ _ _ _ _ _ _ _ _ _ (Ga.sl 0 rfl) (Ga.sl 1 rfl) (by rw [← Dig.toList]; exact h34) (by rw [← Dig.toList]; exact h36) (by omega)).mono ?_; rintro e W29 ⟨O29, c29, rfl, Gb⟩; replace Ga := Ga.trans Gb; simp only [Gc, Gd] at Ga)); refine Gi Gb ?_
  refine GA rfl ?_; go_wp2_with ((go_at_call 61; (try clear Gb); refine (mac_any key (sz4 n ++ (x.l ++ y.l)) _ _ _ _ _ _ _ (HT.out.of Ga) (Ga.old (by decide) hk) (Ga.sl 0 rfl) hm (by decide)).mono ?_; rintro e Wk1 ⟨rfl, Gb⟩; replace Ga := Ga.keep Gb)); refine Gi Gb ?_
  refine J6 rfl ?_; go_wp2_with ((refine Gr 4 39 Ga rfl (by rfl) (Gw rfl) (Dig.one _) Gv (by rfl) 3 rfl (by rfl) ?_; clear Ga; intro WS9 Ga; simp only [Ge, Gf] at Ga))
  refine G5 ?_
  go_wp2_with fail
  refine Hw rfl rfl rfl (Ga.get 3 rfl) uz32 rfl Gv (by rfl) ?_
  exact ⟨rfl, Ga.forget⟩
 ·obtain ⟨h0, h1⟩ : 0 ≤ n ∧ n < 4294967296 := by
   have hp' : ¬ (n < 0) ∧ ¬ (0 < n / 4294967296) := ⟨fun h => hp (.inr (.inr (.inl h))), fun h => hp (.inr (.inr (.inr ⟨by decide, h⟩)))⟩
   omega
  have HP := Gg (fun w : World => show Calls Tryz.prog 60 #[.int .i64 n, .int .i64 4] w fun e w' => ∃ A, e = .returned (.tuple #[.slice A 4 4, .nilIface]) ∧ St w w' [.row A 4 4 5 1 (GK (sz4 n))] from by
   obtain ⟨k, rfl⟩ := Int.eq_ofNat_of_zero_le h0
   have hk : k < 4294967296 := by omega
   rw [sz4_big k hk]
   exact oput_any k 4 w (by decide) (by decide) (by omega) (fun _ => by rw [Nat.shiftRight_eq_div_pow]; omega))
  clear hp hn1 hn2 h0 h1
  go_enter Tryz.func24, Tryz.ntmps24
  go_upto_region 1 with (first | (refine Gm 3 rfl (Gw rfl) ?_; (try clear Gb); intro g3 W3 Gb; replace Ga := Ga.tr1 Gb) | (refine Gk 4 rfl Gv ?_; (try clear Gb); intro g4 W4 Gb; replace Ga := Ga.tr1 Gb))
  go_upto_region 2 with (first | (go_at_call 60; refine (HP.out _).mono ?_; rintro e Wp ⟨Op, rfl, Gb⟩; replace Ga := Ga.trans Gb; simp only [Gc, Gd] at Ga; clear Gb) | (refine Gj 9 rfl (by rfl) uz3 rfl (Gy (Ga.get 1 rfl) GQ) ?_))
  go_upto_region 4 with (fail)
  clear HP
  refine GO [(0, 0), (1, 0), (2, 0), (3, 0), (4, 2), (5, 2), (6, 2), (7, 2), (8, 2), (9, 1)] (by kernel_rfl) (by kernel_rfl) ?_
  replace Ga := Ga.drew
  refine GG rfl rfl ?_; go_wp2_with fail
  refine GG rfl rfl ?_; go_wp2_with fail
  refine H8 rfl rfl (by kernel_rfl) ?_; go_wp2_with fail
  refine GG rfl rfl ?_; go_wp2_with (refine K7 (d := some 34) rfl rfl rfl (by rfl) uz32 GF (Hy (Ga.get 2 rfl)) (Dig.size _) (by decide) ?_; intro hs34)
  refine GA rfl ?_; go_wp2_with fail; refine Gh ?_
  refine GA rfl ?_; go_wp2_with (refine K7 (d := some 36) rfl rfl rfl (by rfl) uz32 GF (Jt (Ga.get 2 rfl)) (Dig.size _) (by decide) ?_; intro hs36); refine Gh ?_
  refine GA rfl ?_; go_wp2_with (refine Gq 37 rfl [_, _, _] (bs_3 (Gw rfl) (Gw rfl) (Gw rfl)) rfl uz162 K6 rfl (by (simp [Value.cells]; done)) (by decide) (by decide) ?_; (try clear Gb); intro g37 W37 Gb; replace Ga := Ga.tr1 Gb; simp only [List.flatMap_cons, List.flatMap_nil, List.append_nil, Value.cells, List.toList_toArray] at Ga); refine Gi Gb ?_
  refine GA rfl ?_; go_wp2_with ((go_at_call 62; have h34 := Gb.old (by decide) hs34; have h36 := Gb.old (by decide) hs36; clear Gb; refine (concat3_any (sz4 n) x.l y.l _ _ _ _ _ _ _ _ _ _ _ _ (Ga.sl 0 rfl) (Ga.sl 1 rfl) (by rw [← Dig.toList]; exact h34) (by rw [← Dig.toList]; exact h36) (by omega)).mono ?_; rintro e W29 ⟨O29, c29, rfl, Gb⟩; replace Ga := Ga.trans Gb; simp only [Gc, Gd] at Ga)); refine Gi Gb ?_
  refine GA rfl ?_; go_wp2_with ((go_at_call 61; (try clear Gb); refine (mac_any key (sz4 n ++ (x.l ++ y.l)) _ _ _ _ _ _ _ (HT.out.of Ga) (Ga.old (by decide) hk) (Ga.sl 0 rfl) hm (by decide)).mono ?_; rintro e Wk2 ⟨rfl, Gb⟩; replace Ga := Ga.keep Gb)); refine Gi Gb ?_
  refine J6 rfl ?_; go_wp2_with ((refine Gr 4 39 Ga rfl (by rfl) (Gw rfl) (Dig.one _) Gv (by rfl) 3 rfl (by rfl) ?_; clear Ga; intro WS9 Ga; simp only [Ge, Gf] at Ga))
  refine G5 ?_
  go_wp2_with fail
  refine Hw rfl rfl rfl (Ga.get 3 rfl) uz32 rfl Gv (by rfl) ?_
  exact ⟨rfl, Ga.forget⟩
end
section
open Go.RowKit
section
variable {P : Program} {ops : Array Oper} {rest : List Oper} {o : Oper} {a : Act} {W w0 : World} {Q : Exit → Act → World → Prop} {L : List Res} {d : Option Tmp}
theorem firstCells_str (l : List UInt8) (W : World) : (Builtin.firstCells 1 l.length (.string (GZ l))).run P W = .ok (GK l).toArray W := by
 simp only [Builtin.firstCells, Sem.run_pure]
 congr 1
 apply Array.ext'
 have e : (GZ l).extract 0 l.length = GZ l := by
  have := Hf l
  rw [← this]
  exact ByteArray.extract_zero_size
 rw [e]
 simp [GK, JC, GZ]
theorem run_append_str (Ga : St w0 W L) (k : Nat) {A : Option Addr} {n c e : Nat} {xs : List Value} (hk : L[k]? = some (.row A n c e 1 xs)) {t u ty : TypeId} (ht : P.underlying t = some (.slice e)) (hu : P.underlying u = some .string) {z : Value}
  (he : GW P e z 1 1) (hzs : z.cells.size = 1) (l : List UInt8) (hb : n + l.length ≤ 140737488355328) :
  ∃ A' c' W', (Builtin.append_ #[t, u] ty #[.slice A n c, .string (GZ l)]).run P W = .ok (.slice A' (n + l.length) c') W' ∧ St w0 W' (L.set k (.row A' (n + l.length) c' e 1 (xs ++ GK l))) := by
 obtain ⟨i, hi, hiz, his, hib⟩ := he.parts
 have hmax : n + l.length ≤ maxLen := by simp only [maxLen]; omega
 have hlt : k < L.length := (List.getElem?_eq_some_iff.1 hk).1
 have hself : L.set k (.row A n c e 1 xs) = L := by
  apply List.ext_getElem?
  intro j
  by_cases hj : k = j
  ·subst hj; rw [List.getElem?_set_self hlt, hk]
  ·rw [List.getElem?_set_ne hj]
 have hln : (GK l).length = l.length * 1 := by rw [G7, Nat.mul_one]
 have place : ∀ (W1 : World) (cc : Nat), St w0 W1 L → n + l.length ≤ cc → cc ≤ maxLen → (xs ++ GK l).length = (n + l.length) * 1 →
   St w0 (W1.alloc (.cells ((xs ++ GK l).toArray ++ Builtin.zeroCells z.cells (cc - (n + l.length))) e)) (L.set k (.row (some ⟨W1.heap.size, 0, none⟩) (n + l.length) cc e 1 (xs ++ GK l))) := fun W1 cc h1 hcc hcm hl => by
  have h2 := h1.allocRow e (rowIn_new (n := n + l.length) (c := cc) (s := 1) (z := z.cells) hl hzs hcc hcm)
  have h3 := h2.drop (L' := .row (some ⟨W1.heap.size, 0, none⟩) (n + l.length) cc e 1 (xs ++ GK l) :: L.eraseIdx k) ((List.eraseIdx_sublist L k).cons_cons _)
  exact h3.perm (perm_set _ L k hlt)
 have hsz := Hf l
 have hf : ∀ W1 : World, (Builtin.firstCells 1 l.length (.string (GZ l))).run P W1 = .ok (GK l).toArray W1 := firstCells_str l
 rcases Ga.at_ k hk with ⟨rfl, rfl, rfl, rfl⟩ | ⟨g, off, cur, rfl, hg, hrow⟩
 ·rcases Nat.eq_zero_or_pos l.length with h0 | h0
  ·obtain rfl : l = [] := List.eq_nil_of_length_eq_zero h0
   refine ⟨none, 0, W, ?_, by simpa [hself, GK] using Ga⟩
   have hf0 : (Builtin.firstCells 1 0 (.string (GZ []))).run P W = .ok #[] W := hf W
   simp [Builtin.append_, run_underlying ht, run_underlying hu, sizeOf, typeInfo, hi, his, Builtin.lenOf, hsz, hf0]
  ·have hge := grownCap_ge W l.length 0 e
   have hcm := grownCap_le_maxLen W l.length 0 e (by omega)
   have hrun := run_append_nil_string (P := P) (w := W) t u ty e i z ht hu hi hiz (GZ l) (by omega) (by omega) (by rw [hib]; omega)
   have hp := place W.drew (grownCap W l.length 0 e) Ga.drew (by omega) hcm (by simpa using hln)
   refine ⟨_, _, _, ?_, hp⟩
   rw [hrun, hsz]
   simp [GK, GZ]
   rfl
 ·have hlx := hrow.len
  have hlen : (xs ++ GK l).length = (n + l.length) * 1 := by rw [List.length_append, hlx, hln, Nat.add_mul]
  by_cases hroom : n + l.length ≤ c
  ·obtain ⟨hrow', hfit⟩ := rowIn_put hrow hln hroom
   have hth := Mq (o := off + n * 1) (n := (GK l).length) hg hfit
   have hstore := run_storeCells_cells (P := P) g (off + n * 1) (GK l) 0 W (fun j hj => by simpa using (hth j hj).1) (fun j hj => by simpa using (hth j hj).2) GX
   simp only [Nat.add_zero] at hstore
   refine ⟨some ⟨g, off, none⟩, c, W.setCells g (off + n * 1) (GK l), ?_, ?_⟩
   ·simp only [Builtin.append_]
    simp only [Nat.mul_one] at hstore
    simp [run_underlying ht, run_underlying hu, sizeOf, typeInfo, hi, his, Builtin.lenOf, hsz, hroom, hf, Addr.add_mid, hstore]
   ·obtain ⟨e1, e2, e3, e4⟩ := MP g (GK l) (off + n * 1) W
    exact Ga.turnAt k hk e1 e2 e3 (by omega) (fun q _ hq => Kp g (GK l) _ W q (fun e' => hq (by simp [Res.dom, e']))) (fun q hq => .inl hq)
     (.inr ⟨g, off, _, rfl, MO g e (GK l) _ cur W hg hfit, hrow'⟩)
  ·have hlo : ∀ j u, xs[j]? = some u → W.cell? ((⟨g, off, none⟩ : Addr).add j) = some u := Mr (Jk hg hrow.cells)
   have hge := grownCap_ge W (n + l.length) c e
   have hcm := grownCap_le_maxLen W (n + l.length) c e hmax
   have hfit := growslice_fits (need := n + l.length) (old := c) (bytes := i.bytes) (by omega) (by rw [hib]; omega)
   have hp := place W.drew (grownCap W (n + l.length) c e) Ga.drew hge hcm hlen
   refine ⟨_, _, _, ?_, hp⟩
   have hn : ¬ (n + l.length ≤ c) := hroom
   have h63' : ¬ (9223372036854775807 < ((n : Int) + (l.length : Int))) := by omega
   have h48' : ¬ (281474976710656 < Builtin.nextslicecap (n + l.length) c * i.bytes) := by omega
   have hfo := run_firstCells_some (P := P) W.drew 1 n ⟨g, off, none⟩ n c xs (by simpa using hlx) (by simpa using hlo)
   simp [Builtin.append_, run_underlying ht, run_underlying hu, sizeOf, typeInfo, zeroValue, hi, hiz, his, Builtin.lenOf, hsz, hn, h63', h48', Question.forced, hf, hfo, newRow, grownCap]
   congr 2
   apply Array.ext'
   simp
theorem L_appendT (hd : o.dst = d) (hw : Region.wanted o (yielded ops a.tmps) = true) (Ga : St w0 W L) {x y : Operand} {t u : TypeId} (ho : o.op = .call { callee := .builtin .append, args := #[x, y], argTypes := #[t, u] })
  {A : Option Addr} {n c : Nat} (hx : a.eval x = .slice A n c) {l : List UInt8} (hy : a.eval y = .string (GZ l)) {e : Nat} (ht : P.underlying t = some (.slice e)) (hu : P.underlying u = some .string) {z : Value}
  (he : GW P e z 1 1) (hzs : z.cells.size = 1) (k : Nat) {xs : List Value} {n' : Nat} (hk : L[k]? = some (.row A n' c e 1 xs)) (hnn : n' = n) (hb : n + l.length ≤ 140737488355328)
  (h : ∀ (A' : Option Addr) (c' : Nat) (W' : World), St w0 W' (L.set k (.row A' (n + l.length) c' e 1 (xs ++ GK l))) → wpList P ops Q rest (a.put d (.slice A' (n + l.length) c')) W') : wpList P ops Q (o :: rest) a W := by
 subst hnn
 obtain ⟨A', c', W', hrun, hst'⟩ := run_append_str (P := P) (ty := o.type) Ga k hk ht hu he hzs l hb
 refine Js hd hw ?_ (h A' c' W' hst')
 unfold execOp
 simp only [ho, resolve, invoke, builtin, Sem.run_bind, Sem.run_pure, Result.andThen_ok, List.map_toArray, List.map_cons, List.map_nil, hx, hy, hrun]
theorem L_convSB (hd : o.dst = d) (hw : Region.wanted o (yielded ops a.tmps) = true) {t u e : TypeId} {x : Operand} (ho : o.op = .convert u t x) {l : List UInt8} (hx : a.eval x = .string (GZ l))
  (ht : P.underlying t = some (.slice e)) (hu : P.underlying u = some .string) (he : P.underlying e = some (.int .u8)) (hb : l.length ≤ 140737488355328)
  (h : ∀ (g cap : Nat) (ob : Obj) (W' : World), St W W' [.obj g ob] → (∀ W2 : World, W2.heap[g]? = some ob → SlR W2 (some ⟨g, 0, none⟩) l.length cap 1 (GK l)) → wpList P ops Q rest (a.put d (.slice (some ⟨g, 0, none⟩) l.length cap)) W') : wpList P ops Q (o :: rest) a W := by
 have hrun := run_bytes_of_string (P := P) W u t e (GZ l) hu ht he
 have hz := Hf l
 rw [hz] at hrun
 have hge := grownCap_ge W l.length 0 e
 have hcm := grownCap_le_maxLen W l.length 0 e (by simp only [maxLen]; omega)
 refine Js hd hw (W' := W.drew.alloc (.cells (bytesRow (GZ l) (grownCap W l.length 0 e)) e ((bytesRow (GZ l) (grownCap W l.length 0 e)).size, (bytesRow (GZ l) (grownCap W l.length 0 e)).size + 1))) ?_
  (h _ _ _ _ ((St.refl W).drew.allocObj _) (fun W2 h2 => ⟨by simp [G7], hge, hcm, fun _ => ⟨_, 0, rfl, Jk h2 (fun j v hv => ?_)⟩⟩))
 ·unfold execOp
  simp only [ho, hx]
  simp [hrun]
 ·have hj : j < l.length := by
   have := (List.getElem?_eq_some_iff.1 hv).1
   rwa [G7] at this
  rw [Nat.zero_add, ← hv, bytesRow]
  rw [Array.getElem?_append_left (by simp [GZ]; exact hj)]
  simp [GZ, GK]
  rfl
end
end
section
open Go.RowKit
theorem dig_at (d : Dig) (i : Nat) (h : i < 32) : d.arr[i]? = some (.int .u8 (((d.l.getD i 0).toNat : Nat) : Int)) := by
 rw [Dig.get d i h, List.getD_eq_getElem?_getD, List.getElem?_eq_getElem (by rw [d.h]; exact h)]
 rfl
theorem or_add (x i y : Nat) (hx : x * 2 ^ i < 2 ^ 63) (hy : y < 2 ^ i) (h63 : i < 63) : bits .or .i64 ((x : Int) * ((2 ^ i : Nat) : Int)) (y : Int) = (x : Int) * ((2 ^ i : Nat) : Int) + (y : Int) := by
 have h2 : x * 2 ^ i ||| y = x * 2 ^ i + y := by
  have := Nat.shiftLeft_add_eq_or_of_lt (i := i) (b := y) hy x
  rw [Nat.shiftLeft_eq] at this
  exact this.symm
 have hp : 2 ^ i < 2 ^ 63 := Nat.pow_lt_pow_right (by decide) h63
 have h := i64_or_nat (x * 2 ^ i) y (by omega) (by omega)
 rw [h2] at h
 rw [show (x : Int) * ((2 ^ i : Nat) : Int) = ((x * 2 ^ i : Nat) : Int) by simp, h]
 simp
theorem or4 (a b c e : Nat) (ha : a < 2 ^ 8) (hb : b < 2 ^ 8) (hc : c < 2 ^ 8) (he : e < 2 ^ 8) :
  bits .or .i64 (bits .or .i64 (bits .or .i64 ((a : Int) * 16777216) ((b : Int) * 65536)) ((c : Int) * 256)) (e : Int) = (((((a * 256 + b) * 256 + c) * 256 + e : Nat)) : Int) := by
 have e1 := or_add a 24 (b * 65536) (by omega) (by omega) (by decide)
 rw [show ((2 ^ 24 : Nat) : Int) = 16777216 from rfl, show ((b * 65536 : Nat) : Int) = (b : Int) * 65536 by omega] at e1
 have e2 := or_add (a * 256 + b) 16 (c * 256) (by omega) (by omega) (by decide)
 rw [show ((2 ^ 16 : Nat) : Int) = 65536 from rfl, show ((c * 256 : Nat) : Int) = (c : Int) * 256 by omega, show ((a * 256 + b : Nat) : Int) * 65536 = (a : Int) * 16777216 + (b : Int) * 65536 by omega] at e2
 have e3 := or_add ((a * 256 + b) * 256 + c) 8 e (by omega) (by omega) (by decide)
 rw [show ((2 ^ 8 : Nat) : Int) = 256 from rfl, show (((a * 256 + b) * 256 + c : Nat) : Int) * 256 = (a : Int) * 16777216 + (b : Int) * 65536 + (c : Int) * 256 by omega] at e3
 rw [e1, e2, e3]
 omega
theorem take_four (d : Dig) : d.l.take 4 = [d.l.getD 0 0, d.l.getD 1 0, d.l.getD 2 0, d.l.getD 3 0] := by
 obtain ⟨l, h⟩ := d
 match l, h with
 | a :: b :: c :: e :: r, _ => rfl
theorem four_or (a b c d : UInt8) : natE [a, b, c, d] = ((a.toNat * 256 + b.toNat) * 256 + c.toNat) * 256 + d.toNat := by simp [natE]
theorem M6 (l : List UInt8) (w : World) (hT : Tb w) (hn : l.length ≤ 140737488354000) : Calls Tryz.prog 35 #[.string (GZ l)] w fun e w' => e = .returned (.int .i64 ((Jf l : Nat) : Int)) ∧ St w w' [] := by
 have Ga := St.refl w
 have HT := Gg hT
 clear hT
 go_enter Tryz.func35, Tryz.ntmps35
 have HB := Gg (show [Value.int .u8 12] ++ GK l = GK (12 :: l) from rfl)
 go_upto_region 1 with (go_big_may; fail)
 go_upto_region 2 with (go_big_may; first | (refine L_appendT (d := some 6) rfl rfl Ga rfl (Gw rfl) (Gw rfl) uz22 uz9 GF rfl 0 rfl rfl (by omega) ?_; clear Ga; intro A6 c6 W6 Ga; simp only [List.set_cons_zero] at Ga; rw [HB.out] at Ga) | (go_at_call 80; (try clear Gb); refine (NS (List.cons 12 l) _ _ _ _ (HT.out.of Ga) (Ga.sl 0 rfl) (by omega)).mono ?_; rintro e Wk1 ⟨rfl, Gb⟩; replace Ga := Ga.keep Gb) | (refine Gq 4 rfl [_] (Kj GT) rfl uz22 GF rfl (by (simp [Value.cells]; done)) (by decide) (by decide) ?_; (try clear Gb); intro g4 W4 Gb; replace Ga := Ga.tr1 Gb; simp only [List.flatMap_cons, List.flatMap_nil, List.append_nil, Value.cells, List.toList_toArray] at Ga) | (refine Gk 3 rfl Gv ?_; (try clear Gb); intro g3 W3 Gb; replace Ga := Ga.tr1 Gb) | ((refine Gr 3 7 Ga rfl (by rfl) (Gw rfl) (Dig.one _) Gv (by rfl) 0 rfl (by rfl) ?_; clear Ga; intro WS5 Ga; simp only [Ge, Gf, HB.out] at Ga)))
 clear Gb
 obtain ⟨a, ha⟩ : ∃ a, a = (sha (12 :: l)).l.getD 0 0 := ⟨_, rfl⟩
 obtain ⟨b, hb⟩ : ∃ b, b = (sha (12 :: l)).l.getD 1 0 := ⟨_, rfl⟩
 obtain ⟨c, hc⟩ : ∃ c, c = (sha (12 :: l)).l.getD 2 0 := ⟨_, rfl⟩
 obtain ⟨e, he⟩ : ∃ e, e = (sha (12 :: l)).l.getD 3 0 := ⟨_, rfl⟩
 have H0 := Gg (show (sha (12 :: l)).arr[0]? = some (.int .u8 (a.toNat : Int)) from by rw [ha]; exact dig_at _ 0 (by decide))
 have H1 := Gg (show (sha (12 :: l)).arr[1]? = some (.int .u8 (b.toNat : Int)) from by rw [hb]; exact dig_at _ 1 (by decide))
 have H2 := Gg (show (sha (12 :: l)).arr[2]? = some (.int .u8 (c.toNat : Int)) from by rw [hc]; exact dig_at _ 2 (by decide))
 have H3 := Gg (show (sha (12 :: l)).arr[3]? = some (.int .u8 (e.toNat : Int)) from by rw [he]; exact dig_at _ 3 (by decide))
 have la := UInt8.toNat_lt a
 have lb := UInt8.toNat_lt b
 have lc := UInt8.toNat_lt c
 have le := UInt8.toNat_lt e
 have HN := Gg (show bits .or .i64 (bits .or .i64 (bits .or .i64 ((a.toNat : Int) * 16777216) ((b.toNat : Int) * 65536)) ((c.toNat : Int) * 256)) (e.toNat : Int) = ((Jf l : Nat) : Int) by
  rw [or4 _ _ _ _ la lb lc le, Jf, take_four, four_or, ha, hb, hc, he])
 clear ha hb hc he
 go_wp2_with (first | (refine Gj 9 rfl (by rfl) uz5 rfl (Gy (Ga.get 0 rfl) H0.out) ?_) | (refine Gj 13 rfl (by rfl) uz5 rfl (Gy (Ga.get 0 rfl) H1.out) ?_) | (refine Gj 18 rfl (by rfl) uz5 rfl (Gy (Ga.get 0 rfl) H2.out) ?_) | (refine Gj 23 rfl (by rfl) uz5 rfl (Gy (Ga.get 0 rfl) H3.out) ?_))
 rw [HN.out]
 go_ret
 exact ⟨rfl, Ga.forget⟩
end
section
open Go.RowKit
section
variable {P : Program} {ops : Array Oper} {Q : Act → World → Prop}
theorem Pb.of_run {s : Sem Next} {v : Value} (h : ∀ W, s.run P W = .ok (.value v) W) : Pb P s := fun w n w' hr => by
 rw [h w] at hr
 simp only [Result.ok.injEq] at hr
 obtain ⟨rfl, rfl⟩ := hr
 exact ⟨⟨v, rfl⟩, rfl, h⟩
theorem pm_pv {i : Nat} {r : Pm} {o : Oper} {a : Act} {w : World} (ho : ops[i]? = some o) (hc : Pb P (execOp a.eval o))
  (h : wpList P ops (Exit.then (Mw P ops Q r) fun _ _ _ => False) [o] a w) : Mw P ops Q (.one i 3 r) a w :=
 ⟨o, ho, fun e => absurd e (by decide), fun _ => hc, by
  have : (fun (a' : Act) (w' : World) => ((3 : Nat) = 2 → Below w.heap.size w w') ∧ Mw P ops Q r a' w') = Mw P ops Q r := by
   funext a' w'; simp
  rw [this]; exact h⟩
variable {ρ : Operand → Value} {o : Oper}
theorem pureV_convert {s t : TypeId} {x : Operand} (ho : o.op = .convert s t x) {k : IntKind} {n : Int} (hx : ρ x = .int k n) {ds : TypeDesc} (hs : P.underlying s = some ds) {k' : IntKind} (ht : P.underlying t = some (.int k')) : Pb P (execOp ρ o) := by
 refine Pb.of_run (v := .int k' (k'.wrap n)) fun W => ?_
 unfold execOp
 simp only [ho, hx]
 cases ds <;> simp [convert, run_underlying hs, run_underlying ht, Conv.intToInt]
theorem J8 {s : TypeId} {x : Operand} {f : Nat} (ho : o.op = .fieldAddr s x f) {g off : Nat} (hx : ρ x = .pointer (some ⟨g, off, none⟩)) {fs : Array Field} (hu : P.underlying s = some (.struct fs)) {fl : Field} (hf : fs[f]? = some fl) (hn : (P.info? fl.type).any (fun i => i.size != 0) = true) : Pb P (execOp ρ o) := by
 refine Pb.of_run (v := .pointer (some ((⟨g, off, none⟩ : Addr).add fl.offset))) fun W => ?_
 obtain ⟨i, hi, hs⟩ : ∃ i, P.info? fl.type = some i ∧ i.size ≠ 0 := by
  cases h : P.info? fl.type with
  | none => rw [h] at hn; cases hn
  | some i => rw [h] at hn; exact ⟨i, rfl, by simpa using hn⟩
 unfold execOp
 simp only [ho, hx]
 simp [Instr.fieldAt, run_underlying hu, hf, Instr.sureAddr, fieldPlace, sizeOf, typeInfo, hi, hs]
end
end
section
open Go.RowKit
section
variable {P : Program} {ops : Array Oper} {rest : List Oper} {o : Oper} {a : Act} {W : World} {Q : Exit → Act → World → Prop} {d : Option Tmp}
theorem L_and1 (hd : o.dst = d) (hw : Region.wanted o (yielded ops a.tmps) = true) {t t' : TypeId} {x y : Operand} (ho : o.op = .binOp .and t x y t') {q : Nat} (hx : a.eval x = .int .i64 (q : Int)) (hy : a.eval y = .int .i64 1) (hq : q < 2 ^ 63)
  (h : wpList P ops Q rest (a.put d (.int .i64 ((q % 2 : Nat) : Int))) W) : wpList P ops Q (o :: rest) a W := by
 refine Js hd hw ?_ h
 unfold execOp
 simp only [ho, hx, hy]
 have e : bits .and .i64 (q : Int) 1 = ((q % 2 : Nat) : Int) := by
  have := i64_mask q 1 hq (by decide)
  rw [Nat.and_one_is_mod] at this
  exact this
 have h1 : (eqGuard .and t x y (.int .i64 (q : Int)) (.int .i64 1)).run P W = .ok () W := by simp [eqGuard]
 have h2 : (Go.binOp .and t (.int .i64 (q : Int)) (.int .i64 1)).run P W = .ok (.int .i64 ((q % 2 : Nat) : Int)) W := by
  rw [← e]
  rfl
 simp [h1, h2]
theorem L_shrN (hd : o.dst = d) (hw : Region.wanted o (yielded ops a.tmps) = true) {t t' : TypeId} {x y : Operand} (ho : o.op = .binOp .shr t x y t') {k' : IntKind} {m c : Nat} (hx : a.eval x = .int .i64 (m : Int)) (hy : a.eval y = .int k' ((c : Nat) : Int)) (hc : c ≤ 64)
  (h : wpList P ops Q rest (a.put d (.int .i64 ((m / 2 ^ c : Nat) : Int))) W) : wpList P ops Q (o :: rest) a W :=
 L_shrI hd hw ho hx hy hc (by
  rw [show (m : Int) / 2 ^ c = ((m / 2 ^ c : Nat) : Int) by simp]
  exact h)
end
theorem mFold_take (k : Nat) (l : Dig) (ps : List Dig) (j : Nat) (hj : j < ps.length) : KV k l (ps.take (j + 1)) = if k / 2 ^ j % 2 = 1 then Nf ps[j] (KV k l (ps.take j)) else Nf (KV k l (ps.take j)) ps[j] := by
 rw [List.take_succ_eq_append_getElem hj, mFold_snoc, List.length_take, Nat.min_eq_left (by omega)]
theorem tfoldM_any (k : Nat) (l : Dig) (ps : List Dig) (A : Option Addr) (c : Nat) (w : World) (hT : Tb w) (hx : SlR w A 32 c 32 (GP ps)) (hk : k < 4294967296) :
  Calls Tryz.prog 57 #[.int .i64 (k : Int), l.v, .slice A 32 c] w fun e w' => e = .returned (.tuple #[(KV k l ps).v, .nilIface]) ∧ St w w' [] := by
 have Ga := St.refl w
 have HT := Gg hT
 have hl : ps.length = 32 := by have := hx.1; rw [G8] at this; omega
 have HK := Gg (fun w : World => by have h := tkey_any (k : Int) w; rw [decide_eq_true (show 0 ≤ (k : Int) ∧ (k : Int) < 4294967296 by omega)] at h; exact h)
 have HA := Gg (fun j (hj : j < 32) => show ∃ (p : Dig), ((GP ps).drop (j * 32)).take 32 = p.arr.toList ∧
   KV k l (ps.take (j + 1)) = if k / 2 ^ j % 2 = 1 then Nf p (KV k l (ps.take j)) else Nf (KV k l (ps.take j)) p from
  ⟨ps[j]'(by omega), by rw [MQ ps j (by omega), Dig.toList], mFold_take k l ps j (by omega)⟩)
 have HZ := Gg (show KV k l (ps.take 32) = KV k l ps by rw [List.take_of_length_le (by omega)])
 have hcap := hx.2.1
 have hmax := hx.2.2.1
 simp only [maxLen] at hmax
 clear hT hl
 go_enter Tryz.func57, Tryz.ntmps57
 go_wp2_with (first | (go_at_call 89; (try clear Gb); refine (HK.out _).mono ?_; rintro e Wk1 ⟨rfl, Gb⟩; replace Ga := Ga.keep Gb) | (refine Gm 4 rfl (Gw rfl) ?_; (try clear Gb); intro g4 W4 Gb; replace Ga := Ga.tr1 Gb) | (refine Gk 6 rfl Gv ?_; (try clear Gb); intro g6 W6 Gb; replace Ga := Ga.tr1 Gb))
 (try clear Gb)
 have h0 : KV k l (ps.take 0) = l := rfl
 rw [← h0] at Ga
 clear h0
 go_loopg [22] 32 (fun gk s22 wr => ∃ j : Nat, Hid (j + gk = 32) ∧ s22 = .int .i64 (j : Int) ∧ St w wr [.blk g6 32 GM.arr, .blk g4 32 (KV k l (ps.take j)).arr])
 case atStart => exact ⟨0, Gg (by omega), rfl, Ga⟩
 case round =>
  clear Ga
  obtain ⟨j, HI, rfl, Ga⟩ := hrel
  have hi := HI.out
  by_cases hjm : j < 32
  ·clear hi
   obtain ⟨p, hp, hs⟩ := HA.out j hjm
   have HP := Gg hp
   have hq : k / 2 ^ j < 2 ^ 63 := Nat.lt_of_le_of_lt (Nat.div_le_self _ _) (by omega)
   clear hp
   generalize KV k l (ps.take j) = u at *
   by_cases hb : k / 2 ^ j % 2 = 1
   ·rw [if_pos hb] at hs
    have HS := Gg hs
    have HB := Gg hb
    clear hs hb
    go_wp2_with (first | (refine Gn 26 rfl (by rfl) uz32 rfl Gv (cs := p.arr) (by rw [← HP.out]; exact hr25) (Dig.size _) ?_) | (refine L_shrN (d := some 29) rfl rfl rfl (Gw rfl) (Gw rfl) (by omega) ?_) | (refine L_and1 (d := some 30) rfl rfl rfl (Gw rfl) GT hq ?_; rw [HB.out]) | (go_at_call 95; (try clear Gb); with_reducible refine (mnode_any _ _ _ (HT.out.of Ga)).mono ?_; rintro e Wk2 ⟨rfl, Gb⟩; replace Ga := Ga.keep Gb) | (refine Gp 25 rfl (by rfl) (by rfl) uz44 Gv (Ga.old (by decide) hx) (by omega) (by omega) ?_; intro o25 p25 ha25 hr25; ((subst ha25))) | (refine Gk 9 rfl Gv ?_; (try clear Gb); intro g9 W9 Gb; replace Ga := Ga.tr1 Gb) | ((refine Gr 9 26 Ga rfl (by rfl) (Gw rfl) (Dig.one _) Gv (Dig.size _) 0 rfl (by rfl) ?_; clear Ga; intro WS5 Ga; simp only [Ge, Gf] at Ga)) | (refine Gl 32 rfl (by rfl) uz32 rfl Gv (Ga.get 0 rfl) (Dig.size _) ?_) | (refine Gl 33 rfl (by rfl) uz32 rfl Gv (Ga.get 2 rfl) (Dig.size _) ?_) | ((refine Gr 4 34 Ga rfl (by rfl) (Gw rfl) (Dig.one _) Gv (Dig.size _) 2 rfl (Dig.size _) ?_; clear Ga; intro WS3 Ga; simp only [Ge, Gf] at Ga)))
    go_roundg (gk - 1)
    case measure => have hi := HI.out; omega
    case rel =>
     have hi := HI.out
     refine ⟨j + 1, Gg (by omega), by go_num, ?_⟩
     rw [HS.out]
     exact Ga.pick [1, 2] (by decide)
   ·have hb0 : k / 2 ^ j % 2 = 0 := by omega
    rw [if_neg hb] at hs
    have HS := Gg hs
    have HB := Gg hb0
    clear hs hb hb0
    go_wp2_with (first | (refine Gn 26 rfl (by rfl) uz32 rfl Gv (cs := p.arr) (by rw [← HP.out]; exact hr25) (Dig.size _) ?_) | (refine L_shrN (d := some 29) rfl rfl rfl (Gw rfl) (Gw rfl) (by omega) ?_) | (refine L_and1 (d := some 30) rfl rfl rfl (Gw rfl) GT hq ?_; rw [HB.out]) | (go_at_call 95; (try clear Gb); with_reducible refine (mnode_any _ _ _ (HT.out.of Ga)).mono ?_; rintro e Wk3 ⟨rfl, Gb⟩; replace Ga := Ga.keep Gb) | (refine Gp 25 rfl (by rfl) (by rfl) uz44 Gv (Ga.old (by decide) hx) (by omega) (by omega) ?_; intro o25 p25 ha25 hr25; ((subst ha25))) | (refine Gk 9 rfl Gv ?_; (try clear Gb); intro g9 W9 Gb; replace Ga := Ga.tr1 Gb) | ((refine Gr 9 26 Ga rfl (by rfl) (Gw rfl) (Dig.one _) Gv (Dig.size _) 0 rfl (by rfl) ?_; clear Ga; intro WS5 Ga; simp only [Ge, Gf] at Ga)) | (refine Gl 35 rfl (by rfl) uz32 rfl Gv (Ga.get 2 rfl) (Dig.size _) ?_) | (refine Gl 36 rfl (by rfl) uz32 rfl Gv (Ga.get 0 rfl) (Dig.size _) ?_) | ((refine Gr 4 37 Ga rfl (by rfl) (Gw rfl) (Dig.one _) Gv (Dig.size _) 2 rfl (Dig.size _) ?_; clear Ga; intro WS3 Ga; simp only [Ge, Gf] at Ga)))
    go_roundg (gk - 1)
    case measure => have hi := HI.out; omega
    case rel =>
     have hi := HI.out
     refine ⟨j + 1, Gg (by omega), by go_num, ?_⟩
     rw [HS.out]
     exact Ga.pick [1, 2] (by decide)
  ·obtain rfl : j = 32 := by omega
   rw [HZ.out] at Ga
   clear hi HI
   go_wp2_with (first | (refine Gl 39 rfl (by rfl) uz32 rfl Gv (Ga.get 1 rfl) (Dig.size _) ?_) | ((refine Gr 6 39 Ga rfl (by rfl) (Gw rfl) (Dig.one _) Gv (Dig.size _) 0 rfl (by rfl) ?_; clear Ga; intro WS1 Ga; simp only [Ge, Gf] at Ga)))
   refine He rfl rfl rfl rfl (Ga.get 0 rfl) uz32 rfl Gv (Dig.size _) ?_
   exact ⟨rfl, Ga.forget⟩
theorem tfoldM_len (k : Nat) (l : Dig) (A : Option Addr) (m c : Nat) (w : World) (hm : m ≠ 32) (hk : k < 4294967296) :
  Calls Tryz.prog 57 #[.int .i64 (k : Int), l.v, .slice A m c] w fun e w' => e = .returned (.tuple #[GM.v, JL 3]) ∧ St w w' [] := by
 have Ga := St.refl w
 have HK := Gg (fun w : World => by have h := tkey_any (k : Int) w; rw [decide_eq_true (show 0 ≤ (k : Int) ∧ (k : Int) < 4294967296 by omega)] at h; exact h)
 have h1 : ((m : Int) != 32) = true := by rw [bne_iff_ne]; omega
 clear hm
 go_enter Tryz.func57, Tryz.ntmps57
 go_wp2_with (first | (go_at_call 89; (try clear Gb); refine (HK.out _).mono ?_; rintro e Wk4 ⟨rfl, Gb⟩; replace Ga := Ga.keep Gb) | (refine Gm 4 rfl (Gw rfl) ?_; (try clear Gb); intro g4 W4 Gb; replace Ga := Ga.tr1 Gb) | (refine Gk 6 rfl Gv ?_; (try clear Gb); intro g6 W6 Gb; replace Ga := Ga.tr1 Gb) | (refine KC (d := some 18) rfl rfl rfl uz32 GF Gv ?_) | ((refine Gr 6 18 Ga rfl (by rfl) (Gw rfl) (Dig.one _) Gv (by rfl) 0 rfl (by rfl) ?_; clear Ga; intro WS2 Ga; simp only [Ge, Gf] at Ga)))
 refine He rfl rfl rfl rfl (Ga.get 0 rfl) uz32 rfl Gv (by rfl) ?_
 exact ⟨rfl, Ga.forget⟩
theorem entry_any (s : List UInt8) (d : Dig) (w : World) (hT : Tb w) (hn : s.length ≤ 140737488354000) :
  Calls Tryz.prog 58 #[.string (GZ s), d.v] w fun e w' => e = .returned (K2 (Jf s) d).v ∧ St w w' [] := by
 have Ga := St.refl w
 have HT := Gg hT
 have HI := Gg (fun (w' : World) (h : Tb w') => M6 s w' h hn)
 have HL := Gg (fun (w' : World) (h : Tb w') => tleafE_any (Jf s) d w' h (Mo s))
 generalize K2 (Jf s) d = r at *
 generalize Jf s = i at *
 clear hT
 go_enter Tryz.func58, Tryz.ntmps58
 go_upto_region 1 with (go_big_may; first | (refine Gm 3 rfl (Gw rfl) ?_; (try clear Gb); intro g3 W3 Gb; replace Ga := Ga.tr1 Gb) | (refine Gk 4 rfl Gv ?_; (try clear Gb); intro g4 W4 Gb; replace Ga := Ga.tr1 Gb))
 (try simp only [Act.put, List.setIfInBounds_toArray, List.set_cons_succ, List.set_cons_zero])
 go_cut [5] (fun s5 wx => ∃ g5, s5 = .pointer (some ⟨g5, 0, none⟩) ∧ St w wx [.blk g5 32 r.arr, .blk g4 32 GM.arr, .blk g3 32 d.arr])
 case first =>
  refine Ht (.one 0 3 (.one 2 0 (.two 1 2 (.one 3 0 (.two 4 2 (.one 5 3 (.one 6 3 (.one 7 3 (.one 8 2 (.one 9 1 (.one 10 2 .nil)))))) 8 2 (.one 4 2 (.one 5 2 (.one 6 3 (.one 7 3 (.one 9 1 (.one 10 2 .nil)))))))) 8 2 (.one 1 2 (.one 3 2 (.one 4 2 (.one 5 2 (.one 6 3 (.one 7 3 (.one 9 1 (.one 10 2 .nil))))))))))) (by kernel_rfl) (by kernel_rfl) ?_
  replace Ga := Ga.drew
  refine Jj rfl rfl ?_; go_wp2_with fail
  refine Kl rfl rfl ?_; go_wp2_with ((refine Gl 10 rfl (by rfl) uz32 rfl Gv (Ga.get 1 rfl) (Dig.size _) ?_))
  refine JF (ki := 2) (kj := 2) rfl rfl ?_ ?_
  ·go_wp2_with ((go_at_call 35; (try clear Gb); refine (HI.out _ (HT.out.of Ga)).mono ?_; rintro e Wk5 ⟨rfl, Gb⟩; replace Ga := Ga.keep Gb)); refine ⟨fun _ => (Gb.below), ?_⟩
   refine Kl rfl rfl ?_; go_wp2_with (refine L_buildE (d := some 11) rfl rfl rfl (Gw rfl) (Gw rfl) ?_)
   refine JF (ki := 2) (kj := 2) rfl rfl ?_ ?_
   ·go_wp2_with ((go_at_call 96; (try clear Gb); refine (HL.out _ (HT.out.of Ga)).mono ?_; rintro e Wk6 ⟨rfl, Gb⟩; replace Ga := Ga.keep Gb)); refine ⟨fun _ => (Gb.below), ?_⟩
    refine Jj rfl rfl ?_; go_wp2_with fail
    refine Jj rfl rfl ?_; go_wp2_with fail
    refine Jj rfl rfl ?_; go_wp2_with fail
    refine G6 rfl ?_; go_wp2_with (refine Gk 5 rfl Gv ?_; (try clear Gb); intro g5 W5 Gb; replace Ga := Ga.tr1 Gb); refine Gi Gb ?_
    refine JA rfl ?_; go_wp2_with ((refine Gr 5 13 Ga rfl (by rfl) (Gw rfl) (Dig.one _) Gv (Dig.size _) 0 rfl (by rfl) ?_; clear Ga; intro WS9 Ga; simp only [Ge, Gf] at Ga))
    refine G6 rfl ?_; go_wp2_with fail; refine Gh ?_
    refine H5 ?_
    go_wp2_with fail
    go_meet
    case rel => exact ⟨_, rfl, Ga⟩
   ·go_wp2_with (refine Gk 5 rfl Gv ?_; (try clear Gb); intro g5 W5 Gb; replace Ga := Ga.tr1 Gb); refine ⟨fun _ => (Gb.below), ?_⟩
    refine G6 rfl ?_; go_wp2_with ((go_at_call 96; (try clear Gb); refine (HL.out _ (HT.out.of Ga)).mono ?_; rintro e Wk6 ⟨rfl, Gb⟩; replace Ga := Ga.keep Gb)); refine Gi Gb ?_
    refine G6 rfl ?_; go_wp2_with fail; refine Gh ?_
    refine Jj rfl rfl ?_; go_wp2_with fail
    refine Jj rfl rfl ?_; go_wp2_with fail
    refine JA rfl ?_; go_wp2_with ((refine Gr 5 13 Ga rfl (by rfl) (Gw rfl) (Dig.one _) Gv (Dig.size _) 0 rfl (by rfl) ?_; clear Ga; intro WS9 Ga; simp only [Ge, Gf] at Ga))
    refine G6 rfl ?_; go_wp2_with fail; refine Gh ?_
    refine H5 ?_
    go_wp2_with fail
    go_meet
    case rel => exact ⟨_, rfl, Ga⟩
  ·go_wp2_with (refine Gk 5 rfl Gv ?_; (try clear Gb); intro g5 W5 Gb; replace Ga := Ga.tr1 Gb); refine ⟨fun _ => (Gb.below), ?_⟩
   refine G6 rfl ?_; go_wp2_with ((go_at_call 35; (try clear Gb); refine (HI.out _ (HT.out.of Ga)).mono ?_; rintro e Wk5 ⟨rfl, Gb⟩; replace Ga := Ga.keep Gb)); refine Gi Gb ?_
   refine G6 rfl ?_; go_wp2_with (refine L_buildE (d := some 11) rfl rfl rfl (Gw rfl) (Gw rfl) ?_); refine Gh ?_
   refine G6 rfl ?_; go_wp2_with ((go_at_call 96; (try clear Gb); refine (HL.out _ (HT.out.of Ga)).mono ?_; rintro e Wk6 ⟨rfl, Gb⟩; replace Ga := Ga.keep Gb)); refine Gi Gb ?_
   refine G6 rfl ?_; go_wp2_with fail; refine Gh ?_
   refine Jj rfl rfl ?_; go_wp2_with fail
   refine Jj rfl rfl ?_; go_wp2_with fail
   refine JA rfl ?_; go_wp2_with ((refine Gr 5 13 Ga rfl (by rfl) (Gw rfl) (Dig.one _) Gv (Dig.size _) 0 rfl (by rfl) ?_; clear Ga; intro WS9 Ga; simp only [Ge, Gf] at Ga))
   refine G6 rfl ?_; go_wp2_with fail; refine Gh ?_
   refine H5 ?_
   go_wp2_with fail
   go_meet
   case rel => exact ⟨_, rfl, Ga⟩
 case rest =>
  clear Ga
  obtain ⟨g5, rfl, Ga⟩ := hcut
  go_wp2_with (first | (refine Gl 15 rfl (by rfl) uz32 rfl Gv (Ga.get 0 rfl) (Dig.size _) ?_) | ((refine Gr 4 15 Ga rfl (by rfl) (Gw rfl) (Dig.one _) Gv (Dig.size _) 1 rfl (by rfl) ?_; clear Ga; intro WS1 Ga; simp only [Ge, Gf] at Ga)))
  refine Hw rfl rfl rfl (Ga.get 1 rfl) uz32 rfl Gv (Dig.size _) ?_
  exact ⟨rfl, Ga.forget⟩
end
section
open Go.RowKit Go.Shelf
section
variable {P : Program} {ops : Array Oper} {rest : List Oper} {o : Oper} {a : Act} {W V : World} {Q : Exit → Act → World → Prop} {d : Option Tmp}
theorem L_cutU (hd : o.dst = d) (hw : Region.wanted o (yielded ops a.tmps) = true) {T : TypeId} {x : Operand} {l h m : Option Operand} (ho : o.op = .slice T x l h m) {A : Option Addr} {n c : Nat} (hx : a.eval x = .slice A n c)
  {e : TypeId} (hu : P.underlying T = some (.slice e)) {z : Value} {s b : Nat} (he : GW P e z s b) (hs0 : 0 < s) {xs : List Value} (_ : SlR V A n c s xs) (lo hi mx : Nat)
  (hl : (l.map a.eval = none ∧ lo = 0) ∨ ∃ k v, l.map a.eval = some v ∧ v = .int k ((lo : Nat) : Int)) (hh : (h.map a.eval = none ∧ hi = n ∧ m.map a.eval = none) ∨ ∃ k v, h.map a.eval = some v ∧ v = .int k ((hi : Nat) : Int)) (hm : (m.map a.eval = none ∧ mx = c) ∨ ∃ k v, m.map a.eval = some v ∧ v = .int k ((mx : Nat) : Int))
  (h1 : lo ≤ hi) (h2 : hi ≤ n) (h3 : hi ≤ mx) (h4 : mx ≤ c)
  (hk : ∀ (A' : Option Addr) (c' : Nat), (∀ V' : World, SlR V' A n c s xs → SlR V' A' (hi - lo) c' s ((xs.drop (lo * s)).take ((hi - lo) * s))) → wpList P ops Q rest (a.put d (.slice A' (hi - lo) c')) W) : wpList P ops Q (o :: rest) a W := by
 refine Js hd hw ?_ (hk _ _ (fun V' hs => hs.cut hs0 h1 h2 h3 h4))
 unfold execOp
 simp only [ho, hx]
 simp [run_cutS (P := P) (W := W) hu he hl hh hm h1 h3 h4]
end
attribute [local simp] Jq
theorem halves_clos (x : KD) (b g : Nat) (W : World) (hb : b ≤ 31) (hc : W.cell? ⟨g, 0, none⟩ = some (.int .i64 (b : Int))) :
  Calls Tryz.prog 124 #[.agg (J7 ((x.1.val : Nat) : Int) x.2), .pointer (some ⟨g, 0, none⟩)] W fun e w' => e = .returned (.bool (bitK b x.1.val)) ∧ St W w' [] := by
 have Ga := St.refl W
 obtain ⟨⟨k, hk⟩, d⟩ := x
 have hg : g < W.heap.size := by
  unfold World.cell? at hc
  exact block_lt_of_cell hc
 have hq : k / 2 ^ b < 2 ^ 63 := Nat.lt_of_le_of_lt (Nat.div_le_self _ _) (by omega)
 have HC := Gg (fun (W2 : World) (h : Below W.heap.size W W2) => (h.cell (p := ⟨g, 0, none⟩) hg).trans hc)
 clear hc hg
 simp only
 unfold bitK
 by_cases hb1 : k / 2 ^ b % 2 = 1
 ·rw [decide_eq_true hb1]
  have HB := Gg hb1
  clear hb1 hk
  go_enter Tryz.func124, Tryz.ntmps124
  go_upto_region 1 with (go_big_may; (refine Gm 2 rfl (Gw rfl) ?_; (try clear Gb); intro g2 W2 Gb; replace Ga := Ga.tr1 Gb))
  go_wp2_with (first | (refine Gj 6 rfl (by rfl) uz3 rfl (HC.out _ Ga.below) ?_) | (refine L_shrN (d := some 7) rfl rfl rfl (Gw rfl) (Gw rfl) (by omega) ?_) | (refine L_and1 (d := some 8) rfl rfl rfl (Gw rfl) GT hq ?_; rw [HB.out]) | (refine Gj 5 rfl (by rfl) uz3 rfl (Gy (Ga.get 0 rfl) MF) ?_))
  go_ret
  exact ⟨rfl, Ga.forget⟩
 ·rw [decide_eq_false hb1]
  have HB := Gg (show k / 2 ^ b % 2 = 0 by omega)
  clear hb1 hk
  go_enter Tryz.func124, Tryz.ntmps124
  go_upto_region 1 with (go_big_may; (refine Gm 2 rfl (Gw rfl) ?_; (try clear Gb); intro g2 W2 Gb; replace Ga := Ga.tr1 Gb))
  go_wp2_with (first | (refine Gj 6 rfl (by rfl) uz3 rfl (HC.out _ Ga.below) ?_) | (refine L_shrN (d := some 7) rfl rfl rfl (Gw rfl) (Gw rfl) (by omega) ?_) | (refine L_and1 (d := some 8) rfl rfl rfl (Gw rfl) GT hq ?_; rw [HB.out]) | (refine Gj 5 rfl (by rfl) uz3 rfl (Gy (Ga.get 0 rfl) MF) ?_))
  go_ret
  exact ⟨rfl, Ga.forget⟩
theorem idx_empty (A : Option Addr) (c : Nat) (f : Value) (w : World) : Calls Tryz.prog 123 #[.slice A 0 c, f] w fun e w' => e = .returned (.int .i64 (-1)) ∧ St w w' [] := by
 have Ga := St.refl w
 go_enter Tryz.func123, Tryz.ntmps123
 go_wp2_with fail
 go_loopg [8] 1 (fun gk s8 wr => s8 = .int .i64 0 ∧ St w wr [])
 case atStart => exact ⟨rfl, Ga⟩
 case round =>
  clear Ga
  obtain ⟨rfl, Ga⟩ := hrel
  go_wp2_with fail
  go_ret
  exact ⟨rfl, Ga⟩
theorem idx_any (ks : List KD) (A : Option Addr) (n c b g : Nat) (w : World) (hx : SlR w A n c 33 (Jc (ks.map kdN))) (hb : b ≤ 31) (hc : w.cell? ⟨g, 0, none⟩ = some (.int .i64 (b : Int))) :
  Calls Tryz.prog 123 #[.slice A n c, .func (.func 124) #[] #[.pointer (some ⟨g, 0, none⟩)]] w fun e w' =>
   e = .returned (.int .i64 (if ks.findIdx (fun x => bitK b x.1.val) < n then ((ks.findIdx (fun x => bitK b x.1.val) : Nat) : Int) else -1)) ∧ St w w' [] := by
 have hl : n = ks.length := by have := hx.1; rw [Jv, List.length_map] at this; omega
 rcases Nat.eq_zero_or_pos n with h0 | h0
 ·subst h0
  refine (idx_empty A c _ w).mono ?_
  rintro e w' ⟨rfl, h⟩
  exact ⟨by rw [if_neg (by omega)], h⟩
 ·obtain ⟨bl, off, rfl, hr⟩ := hx.2.2.2 h0
  have hlt : bl < w.heap.size := rangeAt_lt hr (fun e => by
   have := Jv (ks.map kdN)
   rw [e, List.length_map] at this
   simp at this
   omega)
  have hm := hx.2.2.1
  have hnc := hx.2.1
  simp only [maxLen] at hm
  have h := AnyQ.slices_IndexFunc Tryz.laysIdxE 33 Tryz.isAgg110 Tryz.sizeOf110 encE length_encE (fun x => bitK b x.1.val) 124 #[.pointer (some ⟨g, 0, none⟩)] (enters_of Tryz.func124 (by kernel_rfl) rfl) bl off n c ks w
   (fun W x hB => by
    have hcW : W.cell? ⟨g, 0, none⟩ = some (.int .i64 (b : Int)) := (hB.cell (p := ⟨g, 0, none⟩) (by unfold World.cell? at hc; exact block_lt_of_cell hc)).trans hc
    refine (halves_clos x b g W hb hcW).mono ?_
    rintro e w' ⟨he, h⟩
    exact ⟨he, hB.trans (h.below.mono hB.size)⟩)
   (by omega) (by omega) hlt (fun j hj i v hv => ent_cells hx hj hv)
  refine h.mono ?_
  rintro e w' ⟨rfl, hB⟩
  refine ⟨?_, ⟨hB, by simp, by simp, List.Pairwise.nil⟩⟩
  rw [List.take_of_length_le (by omega), Lib.idxBy, idxBy_find, Nat.zero_add, hl]
def MN (b : Nat) (es : List (Nat × Dig)) : Nat := es.findIdx fun e => bitK b e.1
theorem cutI_le (b : Nat) (es : List (Nat × Dig)) : MN b es ≤ es.length := List.findIdx_le_length
theorem halves_any (es : List (Nat × Dig)) (A : Option Addr) (n c b : Nat) (w : World) (hx : SlR w A n c 33 (Jc es)) (hb : b ≤ 31) (hes : ∀ e ∈ es, e.1 < 4294967296) :
  Calls Tryz.prog 90 #[.slice A n c, .int .i64 (b : Int)] w fun e w' => ∃ A1 n1 c1 A2 n2 c2, e = .returned (.tuple #[.slice A1 n1 c1, .slice A2 n2 c2]) ∧
   (∀ V, SlR V A n c 33 (Jc es) → SlR V A1 n1 c1 33 (Jc (es.take (MN b es)))) ∧ (∀ V, SlR V A n c 33 (Jc es) → SlR V A2 n2 c2 33 (Jc (es.drop (MN b es)))) ∧ St w w' [] := by
 have Ga := St.refl w
 obtain ⟨ks, rfl⟩ := kd_of hes
 have HC := Gg (fun (w' : World) (g : Nat) (h1 : SlR w' A n c 33 (Jc (ks.map kdN))) (h2 : w'.cell? ⟨g, 0, none⟩ = some (.int .i64 (b : Int))) => idx_any ks A n c b g w' h1 hb h2)
 rw [← findIdx_kd (bitK b)] at HC
 have hI : (ks.map kdN).findIdx (fun e => bitK b e.1) = MN b (ks.map kdN) := rfl
 rw [hI] at HC
 have hle := cutI_le b (ks.map kdN)
 have hl : n = (ks.map kdN).length := by have := hx.1; rw [Jv] at this; omega
 generalize hi : MN b (ks.map kdN) = i at *
 have ht := Gg (entL_take (ks.map kdN) i (by omega))
 have hd := Gg (entL_drop (ks.map kdN) i (by omega))
 generalize Jc ((ks.map kdN).take i) = lt at *
 generalize Jc ((ks.map kdN).drop i) = ld at *
 have hall := Gg (show i = n → Jc (ks.map kdN) = lt ∧ ld = [] from fun e => by
  have h1 := ht.out
  have h2 := hd.out
  have hz := Jv (ks.map kdN)
  rw [List.take_of_length_le (by omega)] at h1
  rw [List.drop_eq_nil_of_le (by omega)] at h2
  exact ⟨h1, h2.symm⟩)
 rw [← hl] at hle
 generalize Jc (ks.map kdN) = el at *
 clear hl hi hes hI
 by_cases hin : i < n
 ·rw [if_pos hin] at HC
  have h0 : ¬ ((i : Int) < 0) := by omega
  have hnc := hx.2.1
  go_enter Tryz.func90, Tryz.ntmps90
  go_upto_region 1 with (go_big_may; (refine L_box1 (d := some 3) rfl rfl rfl (Gw rfl) rfl ?_; (try clear Gb); intro g3 W3 Gb; replace Ga := Ga.tr1 Gb))
  go_upto_region 2 with (go_big_may; (go_at_call 123; (try clear Gb); refine (HC.out _ _ (Ga.old (by decide) hx) (Gy (Ga.get 0 rfl) rfl)).mono ?_; rintro e Wk ⟨rfl, Gb⟩; replace Ga := Ga.keep Gb))
  go_upto_region 4 with (go_big_may; fail)
  refine GO [(0, 0), (1, 0), (2, 0), (3, 0), (4, 0), (5, 0), (6, 2), (7, 2)] (by kernel_rfl) (by kernel_rfl) ?_
  replace Ga := Ga.drew
  refine GG rfl rfl ?_; go_wp2_with fail
  refine GG rfl rfl ?_; go_wp2_with fail
  refine GG rfl rfl ?_; go_wp2_with ((refine L_cutU (d := some 15) rfl rfl rfl (by rfl) uz143 Hc (by decide) hx 0 _ _ (Or.inl ⟨rfl, rfl⟩) (Or.inr ⟨_, _, rfl, by (exact Gw rfl)⟩) (Or.inl ⟨rfl, rfl⟩) (by omega) (by omega) (by omega) (by omega) ?_; intro A15 c15 hs15))
  refine GG rfl rfl ?_; go_wp2_with fail
  refine GG rfl rfl ?_; go_wp2_with fail
  refine GG rfl rfl ?_; go_wp2_with ((refine L_cutU (d := some 18) rfl rfl rfl (by rfl) uz143 Hc (by decide) hx _ _ _ (Or.inr ⟨_, _, rfl, by (exact Gw rfl)⟩) (Or.inl ⟨rfl, rfl, rfl⟩) (Or.inl ⟨rfl, rfl⟩) (by omega) (by omega) (by omega) (by omega) ?_; intro A18 c18 hs18))
  refine GA rfl ?_; go_wp2_with fail; refine Gh ?_
  refine GA rfl ?_; go_wp2_with fail; refine Gh ?_
  refine G5 ?_
  go_wp2_with fail
  go_ret2
  refine ⟨A15, i, c15, A18, n - i, c18, rfl, fun V hV => ?_, fun V hV => ?_, Ga.forget⟩
  ·have hs := hs15 V hV
   rw [Nat.sub_zero, Nat.zero_mul, List.drop_zero, ht.out] at hs
   exact hs
  ·have hs := hs18 V hV
   have hz := hx.1
   rw [hd.out, List.take_of_length_le (by
    have := congrArg List.length hd.out
    rw [List.length_drop, hz] at this
    rw [← this, Nat.sub_mul]
    exact Nat.le_refl _)] at hs
   exact hs
 ·rw [if_neg hin] at HC
  have hin' : i = n := by omega
  obtain ⟨h1, h2⟩ := hall.out hin'
  have H12 := Gg (And.intro h1 h2)
  clear h1 h2 hall
  subst hin'
  go_enter Tryz.func90, Tryz.ntmps90
  go_upto_region 1 with (go_big_may; (refine L_box1 (d := some 3) rfl rfl rfl (Gw rfl) rfl ?_; (try clear Gb); intro g3 W3 Gb; replace Ga := Ga.tr1 Gb))
  go_upto_region 2 with (go_big_may; (go_at_call 123; (try clear Gb); refine (HC.out _ _ (Ga.old (by decide) hx) (Gy (Ga.get 0 rfl) rfl)).mono ?_; rintro e Wk ⟨rfl, Gb⟩; replace Ga := Ga.keep Gb))
  go_upto_region 3 with (go_big_may; fail)
  go_wp2_with (fail)
  go_ret2
  obtain ⟨h1, h2⟩ := H12.out
  exact ⟨A, i, c, none, 0, 0, rfl, fun V hV => by rw [← h1]; exact hV, fun V _ => by rw [h2]; exact SlR.nil_ V 33, Ga.forget⟩
end
section
open Go.RowKit
theorem cutI_mid {es : List (Nat × Dig)} {b q : Nat} (hr : ∀ e ∈ es, q * 2 ^ (b + 1) ≤ e.1 ∧ e.1 < q * 2 ^ (b + 1) + 2 ^ (b + 1)) : MN b es = es.findIdx fun e => decide (q * 2 ^ (b + 1) + 2 ^ b ≤ e.1) := by
 unfold MN
 induction es with
 | nil => rfl
 | cons e es ih =>
  rw [List.findIdx_cons, List.findIdx_cons, ih (fun x hx => hr x (List.mem_cons_of_mem _ hx)), bit_mid (hr e (by simp)).1 (hr e (by simp)).2]
theorem pw_nodup {es : List (Nat × Dig)} (h : es.Pairwise fun a b => a.1 < b.1) : (es.map (·.1)).Nodup := by
 rw [List.Nodup, List.pairwise_map]
 exact h.imp (fun h => Nat.ne_of_lt h)
attribute [local simp] Jq
theorem troot_any : ∀ (b : Nat) (es : List (Nat × Dig)) (A : Option Addr) (n c q : Nat) (w : World), Tb w → SlR w A n c 33 (Jc es) → b ≤ 32 → (es.Pairwise fun x y => x.1 < y.1) → (∀ e ∈ es, q * 2 ^ b ≤ e.1 ∧ e.1 < q * 2 ^ b + 2 ^ b) → q * 2 ^ b + 2 ^ b ≤ 4294967296 →
  Calls Tryz.prog 85 #[.slice A n c, .int .i64 (b : Int)] w fun e w' => e = .returned (Jy (Hq es) b (q * 2 ^ b)).v ∧ St w w' [] := by
 intro b
 induction b with
 | zero =>
  intro es A n c q w hT hx _ hs hr hq
  have Ga := St.refl w
  have hl : n = es.length := by have := hx.1; rw [Jv] at this; omega
  cases es with
  | nil =>
   obtain rfl : n = 0 := hl
   have HM := Gg (mRoot_empty 0 (q * 2 ^ 0))
   generalize Jy (Hq []) 0 (q * 2 ^ 0) = r at *
   clear hT hs hr hq
   go_enter Tryz.func85, Tryz.ntmps85
   go_upto_region 1 with (go_big_may; (refine Gk 4 rfl Gv ?_; (try clear Gb); intro g4 W4 Gb; replace Ga := Ga.tr1 Gb))
   go_upto_region 2 with (go_big_may; fail)
   go_wp2_with (first | (refine KC (d := some 12) rfl rfl rfl uz32 GF Gv ?_) | ((refine Gr 4 12 Ga rfl (by rfl) (Gw rfl) (Dig.one _) Gv (by rfl) 0 rfl (by rfl) ?_; clear Ga; intro WS1 Ga; simp only [Ge, Gf] at Ga)))
   refine Hw rfl rfl rfl (Ga.get 0 rfl) uz32 rfl Gv (by rfl) ?_
   rw [HM.out]
   exact ⟨rfl, Ga.forget⟩
  | cons e es =>
   have h0 := hr e (by simp)
   have he : e.1 = q := by omega
   have HM := Gg (show Jy (Hq (e :: es)) 0 (q * 2 ^ 0) = K2 e.1 e.2 from by
    show Hq (e :: es) (q * 2 ^ 0) = _
    rw [show q * 2 ^ 0 = e.1 by omega]
    exact NT (pw_nodup hs) (by simp))
   generalize Jy (Hq (e :: es)) 0 (q * 2 ^ 0) = r at *
   have hn0 : ((n : Int) == 0) = false := by rw [beq_eq_false_iff_ne]; simp at hl; omega
   have hn1 : (0 : Int) < (n : Int) := by simp at hl; omega
   have HP := Gg (entL_at (e :: es) 0 (by simp))
   have hnc := hx.2.1
   have HT := Gg hT
   have hk : e.1 < 4294967296 := by omega
   have HL := Gg (fun (w' : World) (h : Tb w') => tleafE_any e.1 e.2 w' h hk)
   obtain ⟨k, d⟩ := e
   simp only [List.getElem_cons_zero] at *
   generalize K2 k d = ld at *
   generalize Jc ((k, d) :: es) = el at *
   clear hT hs hr hq hl h0 he hk
   go_enter Tryz.func85, Tryz.ntmps85
   go_upto_region 1 with (go_big_may; (refine Gk 4 rfl Gv ?_; (try clear Gb); intro g4 W4 Gb; replace Ga := Ga.tr1 Gb))
   go_upto_region 3 with (go_big_may; fail)
   go_upto_region 4 with (go_big_may; fail)
   go_upto_region 5 with (go_big_may; first | (refine Gn 18 rfl (by rfl) uz110 rfl Hc (cs := J7 (k : Int) d) (by rw [← HP.out]; exact hr17) (Jq _ _) ?_) | (go_at_call 96; (try clear Gb); refine (HL.out _ (HT.out.of Ga)).mono ?_; rintro e Wk1 ⟨rfl, Gb⟩; replace Ga := Ga.keep Gb) | (refine Gp 17 rfl (by rfl) (by rfl) uz143 Hc (Ga.old (by decide) hx) (by omega) (by omega) ?_; intro o17 p17 ha17 hr17; ((subst ha17))) | (refine Gk 5 rfl Gv ?_; (try clear Gb); intro g5 W5 Gb; replace Ga := Ga.tr1 Gb) | ((refine Gr 5 20 Ga rfl (by rfl) (Gw rfl) (Dig.one _) Gv (Dig.size _) 0 rfl (by rfl) ?_; clear Ga; intro WS8 Ga; simp only [Ge, Gf] at Ga)))
   go_wp2_with (first | (refine Gl 22 rfl (by rfl) uz32 rfl Gv (Ga.get 0 rfl) (Dig.size _) ?_) | ((refine Gr 4 22 Ga rfl (by rfl) (Gw rfl) (Dig.one _) Gv (Dig.size _) 1 rfl (by rfl) ?_; clear Ga; intro WS1 Ga; simp only [Ge, Gf] at Ga)))
   refine Hw rfl rfl rfl (Ga.get 1 rfl) uz32 rfl Gv (Dig.size _) ?_
   rw [HM.out]
   exact ⟨rfl, Ga.forget⟩
 | succ b ih =>
  intro es A n c q w hT hx hb hs hr hq
  have Ga := St.refl w
  have hl : n = es.length := by have := hx.1; rw [Jv] at this; omega
  have e2 : 2 ^ (b + 1) = 2 ^ b + 2 ^ b := by rw [Nat.pow_succ]; omega
  have hp := Nat.two_pow_pos b
  have e3 : q * 2 ^ (b + 1) = 2 * q * 2 ^ b := by rw [Nat.pow_succ, Nat.mul_comm (2 ^ b) 2, ← Nat.mul_assoc, Nat.mul_comm q 2]
  have e4 : (2 * q + 1) * 2 ^ b = q * 2 ^ (b + 1) + 2 ^ b := by rw [Nat.add_mul, Nat.one_mul, e3]
  cases hes : es with
  | nil =>
   rw [hes] at hx hl
   obtain rfl : n = 0 := hl
   have HM := Gg (mRoot_empty (b + 1) (q * 2 ^ (b + 1)))
   generalize Jy (Hq []) (b + 1) (q * 2 ^ (b + 1)) = r at *
   clear hT hs hr hq ih e2 e3 e4 hes hp
   go_enter Tryz.func85, Tryz.ntmps85
   go_upto_region 1 with (go_big_may; (refine Gk 4 rfl Gv ?_; (try clear Gb); intro g4 W4 Gb; replace Ga := Ga.tr1 Gb))
   go_upto_region 2 with (go_big_may; fail)
   go_wp2_with (first | (refine KC (d := some 12) rfl rfl rfl uz32 GF Gv ?_) | ((refine Gr 4 12 Ga rfl (by rfl) (Gw rfl) (Dig.one _) Gv (by rfl) 0 rfl (by rfl) ?_; clear Ga; intro WS1 Ga; simp only [Ge, Gf] at Ga)))
   refine Hw rfl rfl rfl (Ga.get 0 rfl) uz32 rfl Gv (by rfl) ?_
   rw [HM.out]
   exact ⟨rfl, Ga.forget⟩
  | cons e0 es0 =>
   rw [← hes]
   have hn0 : ((n : Int) == 0) = false := by rw [beq_eq_false_iff_ne, hl, hes]; simp; omega
   have hb0 : (((b + 1 : Nat) : Int) == 0) = false := by rw [beq_eq_false_iff_ne]; omega
   clear hes
   have hcut := cutI_mid hr
   have hmr := mRoot_halves es b (q * 2 ^ (b + 1))
   rw [← cut_low es _ hs, ← cut_high es _ hs, ← hcut] at hmr
   have hlow : es.take (MN b es) = es.filter fun e => decide (e.1 < q * 2 ^ (b + 1) + 2 ^ b) := by rw [hcut]; exact cut_low es _ hs
   have hhigh : es.drop (MN b es) = es.filter fun e => decide (q * 2 ^ (b + 1) + 2 ^ b ≤ e.1) := by rw [hcut]; exact cut_high es _ hs
   have HH := Gg (fun (w' : World) (h : SlR w' A n c 33 (Jc es)) => halves_any es A n c b w' h (by omega) (fun e he => by have := hr e he; omega))
   have HL := Gg (fun (w' : World) (A1 : Option Addr) (n1 c1 : Nat) (ht : Tb w') (h : SlR w' A1 n1 c1 33 (Jc (es.take (MN b es)))) => ih (es.take (MN b es)) A1 n1 c1 (2 * q) w' ht h (by omega) (hs.sublist (List.take_sublist _ _)) (fun e he => by
    have h1 := hr e ((List.take_sublist _ _).subset he)
    rw [hlow] at he
    have h2 := of_decide_eq_true (List.mem_filter.1 he).2
    omega) (by omega))
   have HR := Gg (fun (w' : World) (A1 : Option Addr) (n1 c1 : Nat) (ht : Tb w') (h : SlR w' A1 n1 c1 33 (Jc (es.drop (MN b es)))) => ih (es.drop (MN b es)) A1 n1 c1 (2 * q + 1) w' ht h (by omega) (hs.sublist (List.drop_sublist _ _)) (fun e he => by
    have h1 := hr e ((List.drop_sublist _ _).subset he)
    rw [hhigh] at he
    have h2 := of_decide_eq_true (List.mem_filter.1 he).2
    omega) (by omega))
   rw [← e3] at HL
   rw [e4] at HR
   have HM := Gg hmr
   have HT := Gg hT
   have HS := Gg (show wrap64 (((b + 1 : Nat) : Int) - 1) = (b : Int) by
    rw [show ((b + 1 : Nat) : Int) - 1 = (b : Int) by omega]
    unfold wrap64
    omega)
   generalize Jy (Hq es) (b + 1) (q * 2 ^ (b + 1)) = r at *
   generalize Jy (Hq (es.take (MN b es))) b (q * 2 ^ (b + 1)) = r1 at *
   generalize Jy (Hq (es.drop (MN b es))) b (q * 2 ^ (b + 1) + 2 ^ b) = r2 at *
   generalize Jc (es.take (MN b es)) = l1 at *
   generalize Jc (es.drop (MN b es)) = l2 at *
   generalize Jc es = el at *
   clear hT ih hs hr hq e2 e3 e4 hcut hmr hlow hhigh hl hp
   have hb31 : b ≤ 31 := by omega
   clear hb
   go_enter Tryz.func85, Tryz.ntmps85
   go_upto_region 1 with (go_big_may; (refine Gk 4 rfl Gv ?_; (try clear Gb); intro g4 W4 Gb; replace Ga := Ga.tr1 Gb))
   go_upto_region 3 with (go_big_may; fail)
   go_upto_region 6 with (go_big_may; fail)
   go_upto_region 7 with (go_big_may; (go_at_call 90; (try clear Gb); refine (HH.out _ (Ga.old (by decide) hx)).mono ?_; rintro e Wh ⟨A1, n1, c1, A2, n2, c2, rfl, hx1, hx2, Gb⟩; have HX1 := Gg hx1; have HX2 := Gg hx2; clear hx1 hx2; replace Ga := Ga.keep Gb; clear Gb))
   go_wp2_with (first | (go_at_call_of 85 (Value.slice A1 n1 c1); (try clear Gb); refine (HL.out _ _ _ _ (HT.out.of Ga) (HX1.out _ (Ga.old (by decide) hx))).mono ?_; rintro e W1 ⟨rfl, Gb⟩; replace Ga := Ga.keep Gb) | (go_at_call_of 85 (Value.slice A2 n2 c2); (try clear Gb); refine (HR.out _ _ _ _ (HT.out.of Ga) (HX2.out _ (Ga.old (by decide) hx))).mono ?_; rintro e W1 ⟨rfl, Gb⟩; replace Ga := Ga.keep Gb) | (go_at_call 95; (try clear Gb); refine (mnode_any _ _ _ (HT.out.of Ga)).mono ?_; rintro e Wk2 ⟨rfl, Gb⟩; replace Ga := Ga.keep Gb) | ((refine Gr 4 38 Ga rfl (by rfl) (Gw rfl) (Dig.one _) Gv (Dig.size _) 0 rfl (by rfl) ?_; clear Ga; intro WS9 Ga; simp only [Ge, Gf] at Ga)))
   refine Hw rfl rfl rfl (Ga.get 0 rfl) uz32 rfl Gv (Dig.size _) ?_
   rw [HM.out]
   exact ⟨rfl, Ga.forget⟩
end
section
open Go.RowKit Go.Shelf Go.Sort
open Go.Maps (Keyed)
def cmpE (x y : KD) : Int := ((x.1.val : Nat) : Int) - ((y.1.val : Nat) : Int)
theorem ltE (x y : KD) : ltOf cmpE x y = decide (x.1.val < y.1.val) := by
 unfold ltOf cmpE
 congr 1
 apply propext
 omega
theorem swoE : Sort.SWO (ltOf cmpE) where
 irrefl x := by rw [ltE]; simp
 trans x y z h1 h2 := by rw [ltE] at *; simp at *; omega
 ntrans x y z h1 h2 := by rw [ltE] at *; simp at *; omega
section
variable {P : Program} {ops : Array Oper} {rest : List Oper} {o : Oper} {a : Act} {W w0 : World} {Q : Exit → Act → World → Prop} {L : List Res} {d : Option Tmp}
theorem L_boxG (Ga : St w0 W L) (hgr : ∃ os, W = Sort.grow w0 os) (hd : o.dst = d) (hw : Region.wanted o (yielded ops a.tmps) = true) {T : TypeId} {x : Operand} (ho : o.op = .box T x) {cs : Array Value} (hx : a.eval x = .agg cs)
  (h : ∀ (g : Nat) (W' : World), St w0 W' (.blk g T cs :: L) → (∃ os, W' = Sort.grow w0 os) → wpList P ops Q rest (a.put d (.pointer (some ⟨g, 0, none⟩))) W') : wpList P ops Q (o :: rest) a W := by
 obtain ⟨os, rfl⟩ := hgr
 refine Js hd hw (exec_box T x ho) ?_
 rw [hx]
 refine h _ _ (Ga.alloc cs T) ⟨os ++ #[.cells cs T], ?_⟩
 rw [Sort.alloc_eq_grow, Sort.grow_grow]
 rfl
end
theorem cmp_clos (x y : KD) (W : World) : Calls Tryz.prog 121 #[.agg (J7 ((x.1.val : Nat) : Int) x.2), .agg (J7 ((y.1.val : Nat) : Int) y.2)] W fun e w' => e = .returned (.int .i64 (cmpE x y)) ∧ ∃ os, w' = Sort.grow W os := by
 have Ga := St.refl W
 have hgr : ∃ os, W = Sort.grow W os := ⟨#[], by simp⟩
 have lx := x.1.isLt
 have ly := y.1.isLt
 go_enter Tryz.func121, Tryz.ntmps121
 go_wp2_with (first | (refine L_boxG Ga hgr (d := some 2) rfl rfl rfl (Gw rfl) ?_; clear Ga hgr; intro g2 W2 Ga hgr) | (refine L_boxG Ga hgr (d := some 3) rfl rfl rfl (Gw rfl) ?_; clear Ga hgr; intro g3 W3 Ga hgr) | (refine Gj 6 rfl (by rfl) uz3 rfl (Gy (Ga.get 1 rfl) MF) ?_) | (refine Gj 8 rfl (by rfl) uz3 rfl (Gy (Ga.get 0 rfl) MF) ?_))
 go_ret
 exact ⟨rfl, hgr⟩
theorem ent_get {ks : List KD} {j : Nat} {v : Value} (h : (Jc (ks.map kdN))[j]? = some v) : j / 33 < ks.length ∧ (encE (ks[j / 33]!))[j % 33]? = some v := by
 have hj := (List.getElem?_eq_some_iff.1 h).1
 rw [Jv, List.length_map] at hj
 have h1 : j / 33 < ks.length := by omega
 refine ⟨h1, ?_⟩
 rw [← kd_at h1, List.getElem?_take, if_pos (by omega), List.getElem?_drop, show j / 33 * 33 + j % 33 = j by omega]
 exact h
theorem St.sortRows {w0 W : World} {L : List Res} (h : St w0 W L) (k : Nat) {blk off n c e : Nat} {xs : List Value} (hk : L[k]? = some (.row (some ⟨blk, off, none⟩) n c e 33 xs)) (q : Nat) (d : Array KD) (hd : d.size = n) (os : Array Obj) :
  St w0 (sortWorldK encE 33 W blk off q d os) (L.set k (.row (some ⟨blk, off, none⟩) n c e 33 (Jc (d.toList.map kdN)))) := by
 have hlt : blk < W.heap.size := h.lt (List.mem_of_getElem? hk) rfl
 have hsz : (putRowK encE 33 (Sort.ahead W q) blk off d).heap.size = W.heap.size := by simp [putRowK, Sort.putRow, mapBlock, Sort.ahead]
 have hold : ∀ i, i < W.heap.size → (sortWorldK encE 33 W blk off q d os).heap[i]? = (putRowK encE 33 (Sort.ahead W q) blk off d).heap[i]? := fun i hi => heap_grow_old _ _ (by rw [hsz]; exact hi)
 refine h.turnAt k hk rfl rfl rfl (by simp [sortWorldK, putRowK, Sort.putRow, mapBlock, Sort.ahead, Sort.grow]) (fun i hi hne => ?_) (fun g hg => .inl hg) ?_
 ·rw [hold i hi]
  have hne : blk ≠ i := fun e => hne (by simp [Res.dom, e])
  simp [putRowK, Sort.putRow, mapBlock, Sort.ahead, Array.getElem?_modify, hne]
 ·rcases h.at_ k hk with ⟨h0, _⟩ | ⟨g, off', cur, hA, hh, hr⟩
  ·cases h0
  ·simp only [Option.some.injEq, Addr.mk.injEq, and_true] at hA
   obtain ⟨rfl, rfl⟩ := hA
   refine .inr ⟨blk, off, putCells id off (flatK encE 33 d) cur, rfl, ?_, ?_⟩
   ·rw [hold blk hlt]
    show ((Sort.ahead W q).heap.modify blk _)[blk]? = _
    rw [Array.getElem?_modify, if_pos rfl]
    show (W.heap[blk]?).map _ = _
    rw [hh]
    rfl
   ·have hrm := hr.room
    have hnc := hr.nc
    have hl : (Jc (d.toList.map kdN)).length = n * 33 := by rw [Jv, List.length_map, Array.length_toList, hd]
    refine ⟨hl, hnc, hr.cm, by simpa [putCells] using hrm, fun j v hv => ?_⟩
    have hj : j < n * 33 := by rw [← hl]; exact (List.getElem?_eq_some_iff.1 hv).1
    have hroom : n * 33 ≤ c * 33 := Nat.mul_le_mul_right _ hnc
    rw [putCells, Array.getElem?_mapIdx]
    have hlt2 : off + j < cur.size := by omega
    rw [Array.getElem?_eq_getElem hlt2]
    obtain ⟨h1, h2⟩ := ent_get hv
    have h3 : off ≤ off + j ∧ off + j < off + (flatK encE 33 d).size := by rw [size_flatK, hd]; omega
    simp only [Option.map_some, h3, and_self, if_true, id]
    rw [show off + j - off = j by omega, get_flatK _ _ _ _ (by rw [hd]; exact hj)]
    have h4 : d[j / 33]! = d.toList[j / 33]! := by simp [getElem!_def]
    rw [h4]
    congr 1
    rw [getElem!_def, h2]
theorem frozen_row {w0 W : World} {L : List Res} (h : St w0 W L) (k : Nat) {blk off n c e s : Nat} {xs : List Value} (hk : L[k]? = some (.row (some ⟨blk, off, none⟩) n c e s xs)) (j : Nat) (hj : j < n * s) : W.frozen? ⟨blk, off + j, none⟩ = false := by
 rcases h.at_ k hk with ⟨h0, _⟩ | ⟨g, off', cur, hA, hh, hr⟩
 ·cases h0
 ·simp only [Option.some.injEq, Addr.mk.injEq, and_true] at hA
  obtain ⟨rfl, rfl⟩ := hA
  have hrm := hr.room
  have : n * s ≤ c * s := Nat.mul_le_mul_right _ hr.nc
  exact (Mq (o := off) (n := n * s) hh (by omega) j hj).2
theorem sort_some (ks : List KD) (blk off n c : Nat) (w0 w : World) (L : List Res) (Ga : St w0 w (.row (some ⟨blk, off, none⟩) n c 110 33 (Jc (ks.map kdN)) :: L)) (hn : n ≤ 64) :
  Calls Tryz.prog 120 #[.slice (some ⟨blk, off, none⟩) n c, .func (.func 121) #[] #[]] w fun e w' => e = .returned (.tuple #[]) ∧
   ∃ ds : List KD, ds.Perm ks ∧ (ds.Pairwise fun a b => ¬ b.1.val < a.1.val) ∧ St w0 w' (.row (some ⟨blk, off, none⟩) n c 110 33 (Jc (ds.map kdN)) :: L) := by
 have hx := Ga.sl 0 rfl
 have hl : n = ks.length := by have := hx.1; rw [Jv, List.length_map] at this; omega
 have hlt : blk < w.heap.size := Ga.lt (List.mem_cons_self ..) rfl
 have h := AnyQ.slices_SortFunc Tryz.laysSortE 33 Tryz.isAgg110 Tryz.sizeOf110 encE length_encE (fun x => NH _ _) cmpE swoE 121 #[] blk off c ks.toArray w (enters_of Tryz.func121 (by kernel_rfl) rfl)
  (fun m os dk hs x y => (cmp_clos x y _).mono fun e w' ⟨he, os', hw⟩ => ⟨he, 0, os', hw⟩)
  (fun t ht => by
   rw [size_flatK] at ht
   have ht' : t < ks.length * 33 := by simpa using ht
   refine ⟨?_, frozen_row Ga 0 rfl t (by rw [hl]; exact ht')⟩
   rw [get_flatK _ _ _ _ ht]
   have h1 : t / 33 < ks.length := by omega
   have h2 : t % 33 < (encE (ks[t / 33]!)).length := by rw [length_encE]; omega
   have h3 := ent_cells hx (j := t / 33) h1 (i := t % 33) (v := (encE (ks[t / 33]!))[t % 33]) (List.getElem?_eq_getElem h2)
   rw [show off + t / 33 * 33 + t % 33 = off + t by omega] at h3
   rw [h3]
   have h4 : ks.toArray[t / 33]! = ks[t / 33]! := by simp [getElem!_def]
   rw [h4]
   simp only [id]
   generalize encE (ks[t / 33]!) = ee at h2 ⊢
   simp [getElem!_def, List.getElem?_eq_getElem h2])
  hlt (by simp; omega)
 have hz : ks.toArray.size = n := by simp [hl]
 rw [hz] at h
 refine h.mono ?_
 rintro e w' ⟨rfl, d', q, os, hp, hs, rfl⟩
 refine ⟨rfl, d'.toList, ?_, ?_, ?_⟩
 ·have := (list_perm (by rw [hz]; exact hp)).2
  simpa using this
 ·have h1 := (list_perm (by rw [hz]; exact hp)).1
  have := list_sorted (lt := ltOf cmpE) (d := d') (by rw [h1, hz]; exact hs)
  refine this.imp (fun {a b} hab => ?_)
  rw [ltE] at hab
  exact of_decide_eq_false hab
 ·have h1 := (list_perm (by rw [hz]; exact hp)).1
  exact Ga.sortRows 0 rfl q d' (by rw [h1, hz]) os
theorem sort_any (ks : List KD) (A : Option Addr) (n c : Nat) (w0 w : World) (L : List Res) (Ga : St w0 w (.row A n c 110 33 (Jc (ks.map kdN)) :: L)) (hn : n ≤ 64) :
  Calls Tryz.prog 120 #[.slice A n c, .func (.func 121) #[] #[]] w fun e w' => e = .returned (.tuple #[]) ∧
   ∃ ds : List KD, ds.Perm ks ∧ (ds.Pairwise fun a b => ¬ b.1.val < a.1.val) ∧ St w0 w' (.row A n c 110 33 (Jc (ds.map kdN)) :: L) := by
 have hx := Ga.sl 0 rfl
 have hl : n = ks.length := by have := hx.1; rw [Jv, List.length_map] at this; omega
 rcases Nat.eq_zero_or_pos n with h0 | h0
 ·obtain rfl : ks = [] := List.eq_nil_of_length_eq_zero (by omega)
  subst h0
  refine (AnyF.slices_SortFunc_none Tryz.laysSortE A c _ w).mono ?_
  rintro e w' ⟨rfl, rfl⟩
  exact ⟨rfl, [], List.Perm.refl _, List.Pairwise.nil, Ga⟩
 ·obtain ⟨b, o, rfl, _⟩ := hx.2.2.2 h0
  exact sort_some ks b o n c w0 w L Ga hn
end
section
open Go.RowKit Go.Shelf Go.Sort
open Go.Maps (Keyed)
theorem entL_ones (es : List (Nat × Dig)) : ∀ u ∈ Jc es, u.oneCell' = true := by
 intro u hu
 unfold Jc Nj at hu
 obtain ⟨p, _, hp⟩ := List.mem_flatMap.1 hu
 exact NH p.1 p.2 u (by rw [NG]; exact hp)
theorem cloneE_any (es : List (Nat × Dig)) (A : Option Addr) (n c : Nat) (w : World) (hx : SlR w A n c 33 (Jc es)) (hn : n ≤ 64) :
  Calls Tryz.prog 119 #[.slice A n c] w fun e w' => ∃ O oc, e = .returned (.slice O n oc) ∧ St w w' [.row O n oc 110 33 (Jc es)] := by
 have Ga := St.refl w
 have q49 : ∀ (w : World) (a : Option Addr) (n c n' c' : Nat), (binOp .eql 93 (.slice a n c) (.slice none n' c')).run Tryz.prog w = .ok (.bool a.isNone) w := fun w a n c n' c' => Lib.run_eql_slice_nil w _ _ a n c n' c' uz93
 cases A with
 | none =>
  obtain rfl : n = 0 := by
   rcases Nat.eq_zero_or_pos n with h | h
   ·exact h
   ·obtain ⟨b, o, h1, _⟩ := hx.2.2.2 h
    cases h1
  obtain rfl : es = [] := List.eq_nil_of_length_eq_zero (by have := hx.1; rw [Jv] at this; omega)
  go_enter Tryz.func119, Tryz.ntmps119
  go_wp2_with (fail)
  go_ret
  exact ⟨none, 0, rfl, Ga.nilRow _ 33⟩
 | some a =>
  go_enter Tryz.func119, Tryz.ntmps119
  go_wp2_with (first | (refine Gq 5 rfl [] (bs_0 ) rfl uz93 Hc rfl (by (simp [Value.cells]; done)) (by decide) (by decide) ?_; (try clear Gb); intro g5 W5 Gb; replace Ga := Ga.tr1 Gb; simp only [List.flatMap_cons, List.flatMap_nil, List.append_nil, Value.cells, List.toList_toArray] at Ga) | (refine GY (d := some 7) rfl rfl Ga rfl (by rfl) (by rfl) uz93 Hc rfl (by decide) (by decide) 0 rfl (by rfl) (Ga.old (by decide) hx) (entL_ones _) (by omega) ?_; clear Ga; intro A7 c7 W7 Ga; simp only [Ge, Gf, List.nil_append, Nat.zero_add] at Ga))
  go_ret
  exact ⟨_, _, rfl, by simpa using Ga⟩
def M2 (n : Nat) : Value := .int .i64 (n : Int)
theorem N1 (x y : Nat) (h : M2 x = M2 y) : x = y := by simp only [M2, Value.int.injEq, true_and] at h; omega
theorem M7 : Keyed Tryz.prog 3 := Go.Maps.int_keyed uz3
theorem kInt_ok {n : Nat} (h : n < 9223372036854775808) : K4 Tryz.prog 3 M2 n := ⟨_, Go.Maps.keyOf_int_mk uz3 (WalkArith.wf_i64 (by omega))⟩
def metL (es : List (Nat × Dig)) (j : Nat) : List (Nat × Nat) := (es.take j).mapIdx fun i e => (e.1, i)
theorem metL_keys (es : List (Nat × Dig)) (j : Nat) : (metL es j).map (·.1) = (es.take j).map (·.1) := by
 unfold metL
 apply List.ext_getElem?
 intro i
 rw [List.getElem?_map, List.getElem?_mapIdx, List.getElem?_map, Option.map_map]
 rfl
theorem metL_succ {es : List (Nat × Dig)} {j : Nat} (hj : j < es.length) : metL es (j + 1) = metL es j ++ [(es[j].1, j)] := by
 unfold metL
 rw [List.take_succ_eq_append_getElem hj, List.mapIdx_append]
 simp [Nat.min_eq_left (Nat.le_of_lt hj)]
theorem tsorted_any (es : List (Nat × Dig)) (A : Option Addr) (n c : Nat) (w : World) (hx : SlR w A n c 33 (Jc es)) (hn : n ≤ 64) (hk : ∀ e ∈ es, e.1 < 4294967296) (hd : (es.map (·.1)).Nodup) :
  Calls Tryz.prog 84 #[.slice A n c] w fun e w' => ∃ (ss : List (Nat × Dig)) (O : Option Addr) (oc : Nat), e = .returned (.tuple #[.slice O n oc, .nilIface]) ∧ (ss.Pairwise fun a b => a.1 < b.1) ∧ ss.Perm es ∧ St w w' [.row O n oc 110 33 (Jc ss)] := by
 have Ga := St.refl w
 have hl : n = es.length := by have := hx.1; rw [Jv] at this; omega
 have h64 : ¬ (64 : Int) < (n : Int) := by omega
 have hnc := hx.2.1
 have hcm := hx.2.2.1
 simp only [maxLen] at hcm
 have HA := Gg (fun j (hj : j < n) => show ∃ (k : Nat) (d : Dig), k < 4294967296 ∧ ((Jc es).drop ((j : Int).toNat * 33)).take 33 = (J7 (k : Int) d).toList ∧ k ∉ (metL es j).map (·.1) ∧ metL es (j + 1) = metL es j ++ [(k, j)] from by
  have hj' : j < es.length := by omega
  refine ⟨es[j].1, es[j].2, hk _ (List.getElem_mem _), entL_at es j hj', ?_, metL_succ hj'⟩
  rw [metL_keys]
  intro hm
  obtain ⟨e, he, hee⟩ := List.mem_map.1 hm
  obtain ⟨i, hi, hie⟩ := List.mem_iff_getElem.1 he
  rw [List.length_take] at hi
  have hdi := List.pairwise_iff_getElem.1 hd i j (by simp; omega) (by simpa using hj') (by omega)
  rw [List.getElem_map, List.getElem_map] at hdi
  rw [List.getElem_take] at hie
  exact hdi (by rw [hie, hee]))
 have HK := Gg (fun j => show ∀ p ∈ metL es j, K4 Tryz.prog 3 M2 p.1 from fun p hp => by
  have h1 : p.1 ∈ (metL es j).map (·.1) := List.mem_map.2 ⟨p, hp, rfl⟩
  rw [metL_keys] at h1
  obtain ⟨e, he, hee⟩ := List.mem_map.1 h1
  have := hk e ((List.take_sublist _ _).subset he)
  exact kInt_ok (by omega))
 have HD := Gg (fun j => show ((metL es j).map (·.1)).Nodup from by
  rw [metL_keys]
  exact hd.sublist ((List.take_sublist _ _).map _))
 obtain ⟨ks, hks⟩ := kd_of hk
 have HS := Gg (show ∀ ds : List KD, ds.Perm ks → (ds.Pairwise fun a b => ¬ b.1.val < a.1.val) → ((ds.map kdN).Pairwise fun a b => a.1 < b.1) ∧ (ds.map kdN).Perm es from fun ds h1 h2 => by
  rw [hks]
  exact sorted_kd h1 h2 (by rw [← hks]; exact hd))
 have HC := Gg (fun (w' : World) (h : SlR w' A n c 33 (Jc es)) => cloneE_any es A n c w' h hn)
 have HO := Gg (fun (O : Option Addr) (oc : Nat) (w0 w' : World) (L : List Res) (h : St w0 w' (.row O n oc 110 33 (Jc es) :: L)) => sort_any ks O n oc w0 w' L (by rw [← hks]; exact h) hn)
 have hm0 : metL es 0 = [] := rfl
 clear hk hd hks hn hl
 go_enter Tryz.func84, Tryz.ntmps84
 go_wp2_with (refine L_makeMap M2 M2 (d := some 14) rfl rfl rfl ?_; intro gm W14 Gb; replace Ga := Ga.trans Gb; simp only [Gc, Gd] at Ga)
 (try clear Gb)
 rw [← hm0] at Ga
 generalize Jc es = el at *
 generalize metL es = mt at *
 clear hm0 h64
 go_loopg [17] n (fun gk s17 wr => ∃ j : Nat, Hid (j + gk = n) ∧ s17 = .int .i64 (j : Int) ∧ St w wr [.obj gm (mpO M2 M2 (mt j))])
 case atStart => exact ⟨0, Gg (by omega), rfl, Ga⟩
 case round =>
  clear Ga
  obtain ⟨j, HI, rfl, Ga⟩ := hrel
  have hi := HI.out
  by_cases hjm : j < n
  ·clear hi
   obtain ⟨k, d, hk, hp, hkm, hms⟩ := HA.out j hjm
   have HP := Gg hp
   have HM := Gg hms
   have HN := Gg (NF.2 hkm)
   have HKk := Gg (fun w : World => by have h := tkey_any (k : Int) w; rw [decide_eq_true (show 0 ≤ (k : Int) ∧ (k : Int) < 4294967296 by omega)] at h; exact h)
   have HU := Gg (show PI k j (mt j) = mt (j + 1) from by rw [hms]; exact if_neg hkm)
   have HKO := Gg (show K4 Tryz.prog 3 M2 k from kInt_ok (by omega))
   clear hp hms hkm hk
   go_wp2_with (first | (refine Gn 21 rfl (by rfl) uz110 rfl Hc (cs := J7 (k : Int) d) (by rw [← HP.out]; exact hr20) (Jq _ _) ?_) | (go_at_call 89; (try clear Gb); refine (HKk.out _).mono ?_; rintro e Wk1 ⟨rfl, Gb⟩; replace Ga := Ga.keep Gb) | (refine L_look2 (fk := M2) (fv := M2) (y := k) (l := mt j) (d := some 31) rfl rfl rfl M7 uz187 Jo (Gw rfl) (Gw rfl) N1 (HK.out j) (HD.out j) HKO.out (Ga.obj 1 rfl) HN.out ?_) | (refine L_mapUpd (fk := M2) (fv := M2) (l := mt j) (u := k) (v := j) rfl rfl Ga rfl M7 uz187 (Gw rfl) (Gw rfl) (Gw rfl) N1 (HK.out j) (HD.out j) HKO.out 1 rfl ?_; clear Ga; intro WM Ga; simp only [Ge, Gf] at Ga; rw [HU.out] at Ga) | (refine Gp 20 rfl (by rfl) (by rfl) uz93 Hc (Ga.old (by decide) hx) (by omega) (by omega) ?_; intro o20 p20 ha20 hr20; ((subst ha20))) | (refine Gk 6 rfl Hc ?_; (try clear Gb); intro g6 W6 Gb; replace Ga := Ga.tr1 Gb) | ((refine Gr 6 21 Ga rfl (by rfl) (Gw rfl) (prArr_all _ _) Hc (Jq _ _) 0 rfl (by rfl) ?_; clear Ga; intro WS5 Ga; simp only [Ge, Gf] at Ga)) | (refine Gj 23 rfl (by rfl) uz3 rfl (Gy (Ga.get 0 rfl) MF) ?_) | (refine Gj 30 rfl (by rfl) uz3 rfl (Gy (Ga.get 0 rfl) MF) ?_) | (refine Gj 38 rfl (by rfl) uz3 rfl (Gy (Ga.get 0 rfl) MF) ?_))
   go_roundg (gk - 1)
   case measure => have hi := HI.out; omega
   case rel =>
    have hi := HI.out
    exact ⟨j + 1, Gg (by omega), by go_num, Ga.pick [1] (by decide)⟩
  ·clear hi HI
   go_wp2_with (first | (go_at_call 119; (try clear Gb); refine (HC.out _ (Ga.old (by decide) hx)).mono ?_; rintro e Wc ⟨O, oc, rfl, Gb⟩; replace Ga := Ga.trans Gb; simp only [Gc, Gd] at Ga) | (go_at_call 120; (try clear Gb); refine (HO.out _ _ _ _ _ Ga).mono ?_; rintro e Ws ⟨rfl, ds, hp, hs, hst'⟩; clear Ga; have Ga := hst'; clear hst'))
   go_ret2
   obtain ⟨h1, h2⟩ := HS.out ds hp hs
   exact ⟨ds.map kdN, O, oc, rfl, h1, h2, Ga.pick [0] (by decide)⟩
end
section
open Go.RowKit
theorem cloneB_any (l : List UInt8) (A : Option Addr) (n c : Nat) (w : World) (hx : SlR w A n c 1 (GK l)) (hn : n ≤ 140737488355328) :
  Calls Tryz.prog 30 #[.slice A n c] w fun e w' => ∃ O oc, e = .returned (.slice O n oc) ∧ St w w' [.row O n oc 5 1 (GK l)] := by
 have Ga := St.refl w
 have q49 : ∀ (w : World) (a : Option Addr) (n c n' c' : Nat), (binOp .eql 22 (.slice a n c) (.slice none n' c')).run Tryz.prog w = .ok (.bool a.isNone) w := fun w a n c n' c' => Lib.run_eql_slice_nil w _ _ a n c n' c' uz22
 cases A with
 | none =>
  obtain rfl : n = 0 := by
   rcases Nat.eq_zero_or_pos n with h | h
   ·exact h
   ·obtain ⟨b, o, h1, _⟩ := hx.2.2.2 h
    cases h1
  obtain rfl : l = [] := List.eq_nil_of_length_eq_zero (by have := hx.1; rwa [G7, Nat.zero_mul] at this)
  go_enter Tryz.func30, Tryz.ntmps30
  go_wp2_with (fail)
  go_ret
  exact ⟨none, 0, rfl, Ga.nilRow _ 1⟩
 | some a =>
  go_enter Tryz.func30, Tryz.ntmps30
  go_wp2_with (first | (refine Gq 5 rfl [] (bs_0 ) rfl uz22 GF rfl (by (simp [Value.cells]; done)) (by decide) (by decide) ?_; (try clear Gb); intro g5 W5 Gb; replace Ga := Ga.tr1 Gb; simp only [List.flatMap_cons, List.flatMap_nil, List.append_nil, Value.cells, List.toList_toArray] at Ga) | (refine GY (d := some 7) rfl rfl Ga rfl (by rfl) (by rfl) uz22 GF rfl (by decide) (by decide) 0 rfl (by rfl) (Ga.old (by decide) hx) (GX) (by omega) ?_; clear Ga; intro A7 c7 W7 Ga; simp only [Ge, Gf, List.nil_append, Nat.zero_add] at Ga))
  go_ret
  exact ⟨_, _, rfl, by simpa using Ga⟩
end
section
open Go.RowKit
open Go.Maps (Keyed)
def sV (l : List UInt8) : Value := .string (GZ l)
def lsV (x : NoteN × Nat × Dig) : Value := .agg (Nq x.1.name x.1.key x.1.turn (x.2.1 : Int) x.2.2)
theorem NK (x y : List UInt8) (h : sV x = sV y) : x = y := by
 simp only [sV, Value.string.injEq] at h
 exact bsOf_inj h
theorem Kz : Keyed Tryz.prog 9 := Go.Maps.string_keyed uz9
theorem sV_ok {l : List UInt8} (h : JM l = true) : K4 Tryz.prog 9 sV l := ⟨_, Go.WideMaps.keyOf_string_mk uz9 (by rw [Hf]; have := J0 h; simp only [maxLen]; omega)⟩
theorem M8 : GW Tryz.prog 9 (.string (GZ [])) 1 16 := by unfold GW; kernel_rfl
structure LgP where
 (g m c lc Mn Ma : Nat)
 (A O : Option Addr)
 nm : List (List UInt8 × (NoteN × Nat × Dig))
 am : List (Nat × List UInt8)
def lgL (p : LgP) (key : List UInt8) (ns : List NoteN) : List Res :=
 [.blk p.g 80 (lgArr p.A p.m p.c p.O ns.length p.lc p.Mn p.Ma), .row p.A p.m p.c 5 1 (GK key), .row p.O ns.length p.lc 32 32 (GP (lvN ns)), .obj p.Mn (mpO sV lsV p.nm), .obj p.Ma (mpO M2 sV p.am)]
theorem MapsOf.ksO {ns : List NoteN} {nm : List (List UInt8 × (NoteN × Nat × Dig))} {am : List (Nat × List UInt8)} (h : MapsOf ns nm am) : ∀ p ∈ nm, K4 Tryz.prog 9 sV p.1 := fun p hp => sV_ok (h.ks p hp)
theorem MapsOf.ksOA {ns : List NoteN} {nm : List (List UInt8 × (NoteN × Nat × Dig))} {am : List (Nat × List UInt8)} (h : MapsOf ns nm am) : ∀ p ∈ am, K4 Tryz.prog 3 M2 p.1 := fun p hp => kInt_ok (by have := (h.ksA p hp).1; omega)
section
variable {ops : Array Oper} {rest : List Oper} {o : Oper} {a : Act} {W : World} {Q : Exit → Act → World → Prop} {d : Option Tmp}
theorem L_buildLg (hd : o.dst = d) (hw : Region.wanted o (yielded ops a.tmps) = true) {x y z : Operand} (ho : o.op = .build 80 #[(0, x), (2, y), (3, z)]) {A : Option Addr} {m c u v : Nat} (hx : a.eval x = .slice A m c) (hy : a.eval y = .map (some u)) (hz : a.eval z = .map (some v))
  (h : wpList Tryz.prog ops Q rest (a.put d (.agg (lgArr A m c none 0 0 u v))) W) : wpList Tryz.prog ops Q (o :: rest) a W :=
 Mb hd hw ho uz80 el_log_Log [(0, 1), (1, 1), (2, 1), (3, 1)] (by kernel_rfl) (ps := [(0, .slice A m c), (2, .map (some u)), (3, .map (some v))]) (by simp [hx, hy, hz]) (qs := [(0, [.slice A m c]), (2, [.map (some u)]), (3, [.map (some v)])])
  ⟨rfl, rfl, by simp, rfl, rfl, by simp, rfl, rfl, by simp, trivial⟩ rfl h
end
theorem lnew_any (key : List UInt8) (K : Option Addr) (m c : Nat) (w : World) (hk : SlR w K m c 1 (GK key)) (hm : m ≤ 140737488355000) :
  Calls Tryz.prog 8 #[.slice K m c] w fun e w' => ∃ p : LgP, e = .returned (.pointer (some ⟨p.g, 0, none⟩)) ∧ p.m = m ∧ MapsOf [] p.nm p.am ∧ St w w' (lgL p key []) := by
 have Ga := St.refl w
 have HC := Gg (fun (w' : World) (h : SlR w' K m c 1 (GK key)) => cloneB_any key K m c w' h (by omega))
 go_enter Tryz.func8, Tryz.ntmps8
 go_upto_region 1 with (go_big_may; fail)
 go_wp2_with (first | (go_at_call 30; (try clear Gb); refine (HC.out _ (Ga.old (by decide) hk)).mono ?_; rintro e Wc ⟨O, oc, rfl, Gb⟩; replace Ga := Ga.trans Gb; simp only [Gc, Gd] at Ga) | (refine L_makeMap sV lsV (d := some 5) rfl rfl rfl ?_; (try clear Gb); intro Mn W5 Gb; replace Ga := Ga.trans Gb; simp only [Gc, Gd] at Ga) | (refine L_makeMap M2 sV (d := some 6) rfl rfl rfl ?_; (try clear Gb); intro Ma W6 Gb; replace Ga := Ga.trans Gb; simp only [Gc, Gd] at Ga) | (refine L_buildLg (d := some 7) rfl rfl rfl (Gw rfl) (Gw rfl) (Gw rfl) ?_) | (refine Gm 8 rfl (Gw rfl) ?_; (try clear Gb); intro g8 W8 Gb; replace Ga := Ga.tr1 Gb))
 go_ret
 exact ⟨⟨g8, m, oc, 0, Mn, Ma, O, none, [], []⟩, rfl, rfl, MapsOf.nil, (Ga.nilRow 32 32).pick [1, 4, 0, 3, 2] (by decide)⟩
end
section
open Go.RowKit
def fL (nm : List (List UInt8 × (NoteN × Nat × Dig))) (s : List UInt8) : Dig := ((JQ s nm).map fun x => x.2.2).getD GM
def enN (nm : List (List UInt8 × (NoteN × Nat × Dig))) (am : List (Nat × List UInt8)) (i : Nat) : Nat × Dig := match am[i]? with | some p => (p.1, fL nm p.2) | none => (0, GM)
theorem enN_all (nm : List (List UInt8 × (NoteN × Nat × Dig))) (am : List (Nat × List UInt8)) : (List.range am.length).map (enN nm am) = am.map fun p => (p.1, fL nm p.2) := by
 apply List.ext_getElem?
 intro i
 rw [List.getElem?_map, List.getElem?_map]
 by_cases h : i < am.length
 ·rw [List.getElem?_range h, List.getElem?_eq_getElem h]
  simp [enN, h]
 ·rw [List.getElem?_eq_none (by simpa using h), List.getElem?_eq_none (by omega)]
  rfl
theorem ent_snoc (es : List (Nat × Dig)) (k : Nat) (d : Dig) : Jc es ++ (J7 (k : Int) d).toList = Jc (es ++ [(k, d)]) := by
 rw [entL_app]
 congr 1
 rw [Jc, entI, List.map_cons, List.map_nil, pairsL_one]
attribute [local simp] Jq
theorem entries_any (key : List UInt8) (ns : List NoteN) (p : LgP) (w0 w : World) (L : List Res) (Ga : St w0 w (lgL p key ns ++ L)) (hm : MapsOf ns p.nm p.am) (hl : Logged ns) :
  Calls Tryz.prog 40 #[.pointer (some ⟨p.g, 0, none⟩)] w fun e w' => ∃ (es : List (Nat × Dig)) (O : Option Addr) (oc : Nat), e = .returned (.slice O es.length oc) ∧ es.length ≤ 64 ∧ (∀ e ∈ es, e.1 < 4294967296) ∧ (es.map (·.1)).Nodup ∧ Hq es = lgF ns ∧
   St w0 w' (.row O es.length oc 110 33 (Jc es) :: (lgL p key ns ++ L)) := by
 have HO := Gg hm.ksO
 have HD := Gg hm.nd
 have HM := Gg hm
 have HLg := Gg hl
 have hlen : p.am.length ≤ 64 := by rw [hm.lenA, hm.len]; exact hl.names
 have HAt := Gg (fun (i : Nat) (q : Nat × List UInt8) (h : p.am[i]? = some q) => show ∃ x, JQ q.2 p.nm = some x ∧ enN p.nm p.am i = (q.1, x.2.2) ∧ K4 Tryz.prog 9 sV q.2 from by
  have hmem := List.mem_of_getElem? h
  obtain ⟨x, hx⟩ := hm.total (k := q.1) (s := q.2) hmem
  exact ⟨x, hx, by unfold enN fL; rw [h]; simp only [hx]; rfl, sV_ok (hm.ksA q hmem).2⟩)
 simp only [lgL, Gc, Gd] at Ga
 obtain ⟨g, m, c, lc, Mn, Ma, A, O0, nm, am⟩ := p
 simp only at *
 obtain ⟨n, hn⟩ : ∃ n, n = am.length := ⟨_, rfl⟩
 have HN := Gg hn
 rw [← hn] at hlen
 clear hm hl hn
 go_enter Tryz.func40, Tryz.ntmps40
 go_upto_region 1 with (go_big_may; fail)
 go_upto_region 2 with (go_big_may; fail)
 go_wp2_with (first | (refine Gj 9 rfl (by rfl) uz78 rfl (Gy (Ga.get 0 rfl) PR) ?_) | (refine L_range (fk := M2) (fv := sV) (l := am) (d := some 10) rfl rfl rfl uz78 (Gw rfl) (Ga.obj 4 rfl) ?_; intro r W10 Gb; replace Ga := Ga.trans Gb; simp only [Gc, Gd] at Ga))
 (try simp only [Act.put, List.setIfInBounds_toArray, List.set_cons_succ, List.set_cons_zero])
 rw [← HN.out] at Ga
 clear Gb
 have Ga := Ga.nilRow 110 33
 go_loopg [3] n (fun gk s3 wr => ∃ (dn : List Nat) (O : Option Addr) (k oc : Nat), Hid (dn.length + gk = n ∧ dn.Nodup ∧ (∀ i ∈ dn, i < n) ∧ k = dn.length) ∧ s3 = .slice O k oc ∧
  St w0 wr (.row O k oc 110 33 (Jc (dn.map (enN nm am))) :: .obj r (.mapIter (some Ma) n dn.toArray n) :: .blk g 80 (lgArr A m c O0 ns.length lc Mn Ma) :: .row A m c 5 1 (GK key) :: .row O0 ns.length lc 32 32 (GP (lvN ns)) :: .obj Mn (mpO sV lsV nm) :: .obj Ma (mpO M2 sV am) :: L))
 case atStart => exact ⟨[], none, 0, 0, Lib.hid ⟨by simp, List.nodup_nil, by simp, rfl⟩, rfl, Ga⟩
 case round =>
  clear Ga
  obtain ⟨dn, O, k, oc, HG, rfl, Ga⟩ := hrel
  go_wp2_with (refine L_next (fk := M2) (fv := sV) (l := am) (d := some 11) rfl rfl Ga rfl (Gw rfl) HN.out (Nat.le_refl _) (Ga.obj 6 rfl) 1 rfl ?_ ?_)
  ·intro hall
   go_wp2_with fail
   go_ret
   obtain ⟨g1, g2, g3, rfl⟩ := HG.out
   have hn := HN.out
   have hp := range_perm g2 g3 hall
   have hpm : (dn.map (enN nm am)).Perm (am.map fun p => (p.1, fL nm p.2)) := by
    rw [← enN_all, ← hn]
    exact hp.map _
   have hM := HM.out
   have hnd : ((am.map fun p => (p.1, fL nm p.2)).map (·.1)).Nodup := by
    rw [List.map_map]
    exact hM.ndA
   have hlen2 : (dn.map (enN nm am)).length = dn.length := by simp
   refine ⟨dn.map (enN nm am), O, oc, by rw [hlen2]; rfl, by rw [hpm.length_eq, List.length_map, ← hn]; exact hlen, ?_, ((hpm.map _).nodup_iff).2 hnd, ?_, ?_⟩
   ·intro e he
    obtain ⟨q, hq, rfl⟩ := List.mem_map.1 (hpm.mem_iff.1 he)
    exact (hM.ksA q hq).1
   ·funext k
    rw [leafAt_perm (((hpm.map _).nodup_iff).2 hnd) hpm]
    exact hM.entries HLg.out (fL nm) (fun q _ x hx => by unfold fL; rw [hx]; rfl) k
   ·simp only [lgL, Gc, Gd]
    rw [hlen2]
    exact Ga.drop ((List.sublist_cons_self _ _).cons_cons _)
  ·intro i q W11 hq hi hst'
   clear Ga
   have Ga := hst'
   clear hst'
   simp only [Ge, Gf] at Ga
   obtain ⟨x, hx, he, hko⟩ := HAt.out i q hq
   obtain ⟨k1, s1⟩ := q
   obtain ⟨⟨a1, a2, a3⟩, a4, a5⟩ := x
   simp only at hx he hko
   have HX := Gg hx
   have HK := Gg hko
   have HQ := Gg hq
   have HIn := Gg hi
   have HSn := Gg (show Jc (dn.map (enN nm am)) ++ (J7 (k1 : Int) a5).toList = Jc ((dn ++ [i]).map (enN nm am)) by
    rw [ent_snoc, List.map_append, List.map_singleton, he])
   have hk64 : k ≤ 64 := by
    obtain ⟨g1, g2, g3, g4⟩ := HG.out
    omega
   clear hx hko hq he hi
   generalize Jc (dn.map (enN nm am)) = e0 at *
   go_wp2_with (first | (refine L_entry (fk := M2) (fv := sV) (l := am) (i := i) (d := some 13) rfl rfl rfl (Gw rfl) HN.out (Ga.obj 6 rfl) (Ga.obj 1 rfl) HQ.out ?_) | (refine L_look1s (fk := sV) (fv := lsV) (y := s1) (l := nm) (d := some 23) rfl rfl rfl Kz uz77 Hi (Gw rfl) (Gw rfl) NK HO.out HD.out HK.out (Ga.obj 5 rfl) HX.out ?_) | (refine L_fieldD (d := some 24) rfl rfl rfl uz85 rfl (Gw rfl) uz32 Gv lsArr_leaf ?_) | (refine L_buildE (d := some 25) rfl rfl rfl (Gw rfl) (Gw rfl) ?_) | (refine Gj 21 rfl (by rfl) uz77 rfl (Gy (Ga.get 2 rfl) KY) ?_) | (refine Gq 26 rfl [_] (Kj (Gw rfl)) rfl uz93 Hc rfl (by (simp [Value.cells]; done)) (by decide) (by decide) ?_; (try clear Gb); intro g26 W26 Gb; replace Ga := Ga.tr1 Gb; simp only [List.flatMap_cons, List.flatMap_nil, List.append_nil, Value.cells, List.toList_toArray] at Ga) | (refine GY (d := some 27) rfl rfl Ga rfl (by rfl) (by rfl) uz93 Hc rfl (by decide) (by decide) 1 rfl (by rfl) (Ga.sl 0 rfl) (NH _ _) (by omega) ?_; clear Ga; intro A27 c27 W27 Ga; simp only [Ge, Gf, List.nil_append, Nat.zero_add] at Ga))
   have hG2 : (dn ++ [i]).length + (gk - 1) = n ∧ (dn ++ [i]).Nodup ∧ (∀ j ∈ dn ++ [i], j < n) ∧ k + 1 = (dn ++ [i]).length ∧ 0 < gk := by
    obtain ⟨g1, g2, g3, g4⟩ := HG.out
    have hin : i < n := by rw [HN.out]; exact (List.getElem?_eq_some_iff.1 HQ.out).1
    have hnd : (dn ++ [i]).Nodup := by
     rw [List.nodup_append]
     refine ⟨g2, by simp, fun a ha b hb => ?_⟩
     rw [List.mem_singleton.1 hb]
     intro e
     exact HIn.out (e ▸ ha)
    have hlt : ∀ j ∈ dn ++ [i], j < n := fun j hj => by
     rcases List.mem_append.1 hj with hj | hj
     ·exact g3 j hj
     ·rw [List.mem_singleton.1 hj]; exact hin
    have hle := nodup_le n _ hnd hlt
    rw [List.length_append, List.length_singleton] at hle
    refine ⟨?_, hnd, hlt, ?_, ?_⟩
    ·rw [List.length_append, List.length_singleton]; omega
    ·rw [List.length_append, List.length_singleton]; omega
    ·omega
   obtain ⟨q1, q2, q3, q4, q5⟩ := hG2
   go_roundg (gk - 1)
   case measure => omega
   case rel =>
    refine ⟨dn ++ [i], A27, k + 1, c27, Lib.hid ⟨q1, q2, q3, q4⟩, rfl, ?_⟩
    rw [← HSn.out]
    exact Ga.tail
end
section
open Go.RowKit Go.Shelf
theorem nodup_perm {ss es : List (Nat × Dig)} (hs : ss.Pairwise fun a b => a.1 < b.1) (hp : ss.Perm es) : Hq ss = Hq es := by
 funext k
 exact leafAt_perm (pw_nodup hs) hp k
theorem troot32 (es ss : List (Nat × Dig)) (O : Option Addr) (n oc : Nat) (w' : World) (ht : Tb w') (h : SlR w' O n oc 33 (Jc ss)) (hs : ss.Pairwise fun a b => a.1 < b.1) (hp : ss.Perm es) (hk : ∀ e ∈ es, e.1 < 4294967296) :
  Calls Tryz.prog 85 #[.slice O n oc, .int .i64 32] w' fun e w'' => e = .returned (Jy (Hq es) 32 0).v ∧ St w' w'' [] := by
 obtain ⟨b, hb⟩ : ∃ b : Nat, b = 32 := ⟨_, rfl⟩
 have hbi : (32 : Int) = ((b : Nat) : Int) := by rw [hb]; rfl
 have h1 := troot_any b ss O n oc 0 w' ht h (by omega) hs (fun e he => ⟨by omega, by
  have := hk e (hp.mem_iff.1 he)
  have e2 : 2 ^ b = 4294967296 := by rw [hb]
  omega⟩) (by
  have e2 : 2 ^ b = 4294967296 := by rw [hb]
  omega)
 rw [nodup_perm hs hp, Nat.zero_mul] at h1
 rw [hbi, ← hb]
 exact h1
theorem tRootM_any (es : List (Nat × Dig)) (A : Option Addr) (n c : Nat) (w : World) (hT : Tb w) (hx : SlR w A n c 33 (Jc es)) (hn : n ≤ 64) (hk : ∀ e ∈ es, e.1 < 4294967296) (hd : (es.map (·.1)).Nodup) :
  Calls Tryz.prog 39 #[.slice A n c] w fun e w' => e = .returned (.tuple #[(Jy (Hq es) 32 0).v, .nilIface]) ∧ St w w' [] := by
 have Ga := St.refl w
 have HT := Gg hT
 have HS := Gg (fun (w' : World) (h : SlR w' A n c 33 (Jc es)) => tsorted_any es A n c w' h hn hk hd)
 have HR := Gg (fun (ss : List (Nat × Dig)) (O : Option Addr) (oc : Nat) (w' : World) (ht : Tb w') (hs : ss.Pairwise fun a b => a.1 < b.1) (hp : ss.Perm es) (h : SlR w' O n oc 33 (Jc ss)) =>
  troot32 es ss O n oc w' ht h hs hp hk)
 generalize Jy (Hq es) 32 0 = r at *
 clear hT hk hd
 go_enter Tryz.func39, Tryz.ntmps39
 go_upto_region 1 with (go_big_may; (refine Gk 2 rfl Gv ?_; (try clear Gb); intro g2 W2 Gb; replace Ga := Ga.tr1 Gb))
 go_upto_region 2 with (go_big_may; (go_at_call 84; (try clear Gb); refine (HS.out _ (Ga.old (by decide) hx)).mono ?_; rintro e Ws ⟨ss, O, oc, rfl, hs, hp, Gb⟩; have HSP := Gg (And.intro hs hp); clear hs hp; replace Ga := Ga.trans Gb; simp only [Gc, Gd] at Ga))
 go_upto_region 4 with (go_big_may; fail)
 go_wp2_with (first | (go_at_call 85; (try clear Gb); refine (HR.out ss _ _ _ (HT.out.of Ga) HSP.out.1 HSP.out.2 (Ga.sl 0 rfl)).mono ?_; rintro e Wr ⟨rfl, Gb⟩; replace Ga := Ga.keep Gb) | ((refine Gr 2 16 Ga rfl (by rfl) (Gw rfl) (Dig.one _) Gv (Dig.size _) 1 rfl (by rfl) ?_; clear Ga; intro WS2 Ga; simp only [Ge, Gf] at Ga)))
 refine He rfl rfl rfl rfl (Ga.get 1 rfl) uz32 rfl Gv (Dig.size _) ?_
 exact ⟨rfl, Ga.forget⟩
def pthN (f : Nat → Dig) (k j : Nat) : List Dig := (List.range 32).map fun i => if i < j then GM else Jy f i (Nw i k)
theorem pthN_len (f : Nat → Dig) (k j : Nat) : (pthN f k j).length = 32 := by simp [pthN]
theorem pthN_0 (f : Nat → Dig) (k : Nat) : pthN f k 0 = MK f k 32 := by simp [pthN, MK]
theorem pthN_32 (f : Nat → Dig) (k : Nat) : pthN f k 32 = List.replicate 32 GM := by
 unfold pthN
 apply List.ext_getElem?
 intro i
 rw [List.getElem?_map]
 by_cases h : i < 32
 ·rw [List.getElem?_range h, List.getElem?_replicate, if_pos h]
  simp [h]
 ·rw [List.getElem?_eq_none (by simpa using h), List.getElem?_eq_none (by simpa using h)]; rfl
theorem pthN_set (f : Nat → Dig) (k j : Nat) (h : j < 32) : (pthN f k (j + 1)).set j (Jy f j (Nw j k)) = pthN f k j := by
 apply List.ext_getElem?
 intro i
 rw [List.getElem?_set]
 unfold pthN
 by_cases hi : i < 32
 ·by_cases hj : j = i
  ·subst hj
   simp [h]
  ·rw [if_neg hj, List.getElem?_map, List.getElem?_map, List.getElem?_range hi]
   simp only [Option.map_some]
   congr 1
   by_cases h1 : i < j
   ·rw [if_pos (by omega), if_pos h1]
   ·rw [if_neg (by omega), if_neg h1]
 ·have : ¬ j = i := by omega
  simp [this, hi]
theorem digsL_putD (ds : List Dig) (j : Nat) (d : Dig) (h : j < ds.length) : (GP ds).take (j * 32) ++ d.arr.toList ++ (GP ds).drop (j * 32 + 32) = GP (ds.set j d) := by
 have e : ds.set j d = ds.take j ++ ([d] ++ ds.drop (j + 1)) := by rw [List.set_eq_take_append_cons_drop, if_pos h]; rfl
 have h1 := J5 ds 0 j
 have h2 := J5 ds (j + 1) (ds.length - (j + 1))
 rw [Nat.zero_mul, List.drop_zero, List.drop_zero] at h1
 rw [show j * 32 + 32 = (j + 1) * 32 by omega, h1, e]
 have h3 : (GP ds).drop ((j + 1) * 32) = GP (ds.drop (j + 1)) := by
  rw [List.take_of_length_le (by rw [List.length_drop, G8, ← Nat.sub_mul]; exact Nat.le_refl _), List.take_of_length_le (by rw [List.length_drop]; exact Nat.le_refl _)] at h2
  exact h2
 rw [h3]
 simp [GP, Dig.toList]
theorem under_step {es : List (Nat × Dig)} {b q k : Nat} {f : Nat → Dig} (hs : es.Pairwise fun x y => x.1 < y.1) (hr : ∀ e ∈ es, q * 2 ^ (b + 1) ≤ e.1 ∧ e.1 < q * 2 ^ (b + 1) + 2 ^ (b + 1)) (hq : q = k / 2 ^ (b + 1))
  (hf : ∀ x, q * 2 ^ (b + 1) ≤ x → x < q * 2 ^ (b + 1) + 2 ^ (b + 1) → Hq es x = f x) :
  ∀ own oth : List (Nat × Dig), (own, oth) = (if k / 2 ^ b % 2 = 1 then (es.drop (MN b es), es.take (MN b es)) else (es.take (MN b es), es.drop (MN b es))) →
  (own.Pairwise fun x y => x.1 < y.1) ∧ (∀ e ∈ own, k / 2 ^ b * 2 ^ b ≤ e.1 ∧ e.1 < k / 2 ^ b * 2 ^ b + 2 ^ b) ∧ (∀ x, k / 2 ^ b * 2 ^ b ≤ x → x < k / 2 ^ b * 2 ^ b + 2 ^ b → Hq own x = f x) ∧
  (oth.Pairwise fun x y => x.1 < y.1) ∧ (∀ e ∈ oth, Nw b k ≤ e.1 ∧ e.1 < Nw b k + 2 ^ b) ∧ (∀ x, Nw b k ≤ x → x < Nw b k + 2 ^ b → Hq oth x = f x) := by
 have hcut := cutI_mid hr
 have hlow : es.take (MN b es) = es.filter fun e => decide (e.1 < q * 2 ^ (b + 1) + 2 ^ b) := by rw [hcut]; exact cut_low es _ hs
 have hhigh : es.drop (MN b es) = es.filter fun e => decide (q * 2 ^ (b + 1) + 2 ^ b ≤ e.1) := by rw [hcut]; exact cut_high es _ hs
 have e1 : 2 ^ (b + 1) = 2 ^ b + 2 ^ b := by rw [Nat.pow_succ]; omega
 have hp := Nat.two_pow_pos b
 have e2 : k / 2 ^ (b + 1) = k / 2 ^ b / 2 := half_step k b
 rw [e2] at hq
 have e3 : q * 2 ^ (b + 1) = 2 * q * 2 ^ b := by rw [Nat.pow_succ, Nat.mul_comm (2 ^ b) 2, ← Nat.mul_assoc, Nat.mul_comm q 2]
 have e4 : (2 * q + 1) * 2 ^ b = 2 * q * 2 ^ b + 2 ^ b := by rw [Nat.add_mul, Nat.one_mul]
 have pl : (es.take (MN b es)).Pairwise fun x y => x.1 < y.1 := hs.sublist (List.take_sublist _ _)
 have ph : (es.drop (MN b es)).Pairwise fun x y => x.1 < y.1 := hs.sublist (List.drop_sublist _ _)
 have rl : ∀ e ∈ es.take (MN b es), 2 * q * 2 ^ b ≤ e.1 ∧ e.1 < 2 * q * 2 ^ b + 2 ^ b := fun e he => by
  have h1 := hr e ((List.take_sublist _ _).subset he)
  rw [hlow] at he
  have h2 := of_decide_eq_true (List.mem_filter.1 he).2
  omega
 have rh : ∀ e ∈ es.drop (MN b es), (2 * q + 1) * 2 ^ b ≤ e.1 ∧ e.1 < (2 * q + 1) * 2 ^ b + 2 ^ b := fun e he => by
  have h1 := hr e ((List.drop_sublist _ _).subset he)
  rw [hhigh] at he
  have h2 := of_decide_eq_true (List.mem_filter.1 he).2
  omega
 have fl : ∀ x, 2 * q * 2 ^ b ≤ x → x < 2 * q * 2 ^ b + 2 ^ b → Hq (es.take (MN b es)) x = f x := fun x h1 h2 => by
  rw [hlow, MR es (fun y => decide (y < q * 2 ^ (b + 1) + 2 ^ b)) (decide_eq_true (by omega))]
  exact hf x (by omega) (by omega)
 have fh : ∀ x, (2 * q + 1) * 2 ^ b ≤ x → x < (2 * q + 1) * 2 ^ b + 2 ^ b → Hq (es.drop (MN b es)) x = f x := fun x h1 h2 => by
  rw [hhigh, MR es (fun y => decide (q * 2 ^ (b + 1) + 2 ^ b ≤ y)) (decide_eq_true (by omega))]
  exact hf x (by omega) (by omega)
 intro own oth ho
 unfold Nw
 by_cases hb : k / 2 ^ b % 2 = 1
 ·rw [if_pos hb] at ho ⊢
  obtain ⟨rfl, rfl⟩ := Prod.mk.inj ho
  have hk : k / 2 ^ b = 2 * q + 1 := by omega
  rw [hk, Nat.add_sub_cancel]
  exact ⟨ph, rh, fh, pl, rl, fl⟩
 ·rw [if_neg hb] at ho ⊢
  obtain ⟨rfl, rfl⟩ := Prod.mk.inj ho
  have hk : k / 2 ^ b = 2 * q := by omega
  rw [hk]
  exact ⟨pl, rl, fl, ph, rh, fh⟩
theorem par_le {k b : Nat} (hk : k < 4294967296) (hb : b ≤ 31) : k / 2 ^ (b + 1) * 2 ^ (b + 1) + 2 ^ (b + 1) ≤ 4294967296 := by
 have e : (4294967296 : Nat) = 2 ^ (31 - b) * 2 ^ (b + 1) := by rw [← Nat.pow_add, show 31 - b + (b + 1) = 32 by omega]
 have h1 : k / 2 ^ (b + 1) < 2 ^ (31 - b) := (Nat.div_lt_iff_lt_mul (Nat.two_pow_pos _)).2 (by rw [← e]; exact hk)
 have h2 := Nat.mul_le_mul_right (2 ^ (b + 1)) h1
 rw [Nat.succ_mul, ← e] at h2
 exact h2
theorem sib_form {k b : Nat} (hk : k < 4294967296) (hb : b ≤ 31) : ∃ q, Nw b k = q * 2 ^ b ∧ q * 2 ^ b + 2 ^ b ≤ 4294967296 := by
 have h := par_le hk hb
 have hp := Nat.two_pow_pos b
 have e1 : 2 ^ (b + 1) = 2 ^ b + 2 ^ b := by rw [Nat.pow_succ]; omega
 have e2 : k / 2 ^ (b + 1) = k / 2 ^ b / 2 := half_step k b
 have e3 : k / 2 ^ (b + 1) * 2 ^ (b + 1) = 2 * (k / 2 ^ (b + 1)) * 2 ^ b := by rw [Nat.pow_succ, Nat.mul_comm (2 ^ b) 2, ← Nat.mul_assoc, Nat.mul_comm (k / (2 * 2 ^ b)) 2]
 unfold Nw
 by_cases hb1 : k / 2 ^ b % 2 = 1
 ·rw [if_pos hb1]
  refine ⟨_, rfl, ?_⟩
  have : k / 2 ^ b - 1 = 2 * (k / 2 ^ (b + 1)) := by omega
  rw [this]
  omega
 ·rw [if_neg hb1]
  refine ⟨_, rfl, ?_⟩
  have : k / 2 ^ b + 1 = 2 * (k / 2 ^ (b + 1)) + 1 := by omega
  rw [this, Nat.add_mul, Nat.one_mul]
  omega
section
variable {P : Program} {ops : Array Oper} {rest : List Oper} {o : Oper} {a : Act} {W : World} {Q : Exit → Act → World → Prop} {d : Option Tmp}
theorem zero_cells : ∀ v ∈ GM.arr.toList, v = .int .u8 0 := by
 intro v hv
 rw [Dig.toList] at hv
 obtain ⟨b, hb, rfl⟩ := List.mem_map.1 hv
 rw [show b = 0 from List.eq_of_mem_replicate hb]
 rfl
theorem digs_zero (n : Nat) : GP (List.replicate n GM) = List.replicate (n * 32) (.int .u8 0) := by
 rw [List.eq_replicate_iff]
 refine ⟨by rw [G8, List.length_replicate], fun v hv => ?_⟩
 unfold GP at hv
 obtain ⟨d, hd, hv⟩ := List.mem_flatMap.1 hv
 rw [List.eq_of_mem_replicate hd, ← Dig.toList] at hv
 exact zero_cells v hv
theorem L_makeD (hd : o.dst = d) (hw : Region.wanted o (yielded ops a.tmps) = true) {T : TypeId} {x y : Operand} (ho : o.op = .makeSlice T x y) {n : Nat} (hx : a.eval x = .int .i64 (n : Int)) (hy : a.eval y = .int .i64 (n : Int))
  {e : TypeId} (hu : P.underlying T = some (.slice e)) {b : Nat} (he : GW P e (.agg GM.arr) 32 b) (hb : n * b ≤ 281474976710656) (hn : n ≤ maxLen)
  (h : ∀ (g : Option Addr) (W' : World), St W W' [.row g n n e 32 (GP (List.replicate n GM))] → wpList P ops Q rest (a.put d (.slice g n n)) W') : wpList P ops Q (o :: rest) a W := by
 obtain ⟨i, hi, hiz, his, hib⟩ := he.parts
 have hn' : (n : Int) ≤ 9223372036854775807 := by simp only [maxLen] at hn; omega
 have hr := run_make (P := P) W T e i (.agg GM.arr) hu hi hiz .i64 .i64 n n (by omega) (Int.le_refl _) (by rw [hib, Int.mul_comm]; omega) hn'
 simp only [Int.toNat_natCast] at hr
 have hsz := size_madeCells (Value.agg GM.arr).cells (n * i.size)
 have hcells : (madeCells (Value.agg GM.arr).cells (n * i.size)).toList = GP (List.replicate n GM) := by
  rw [digs_zero, List.eq_replicate_iff]
  refine ⟨by rw [Array.length_toList, hsz, his], fun v hv => ?_⟩
  rw [Array.mem_toList_iff] at hv
  unfold madeCells at hv
  simp only [Value.cells] at hv
  obtain ⟨j, hj, rfl⟩ := Array.mem_map.1 hv
  have hlt : j % GM.arr.size < GM.arr.size := Nat.mod_lt _ (by rw [Dig.size]; decide)
  have h5 : GM.arr[j % GM.arr.size]! = GM.arr[j % GM.arr.size]'hlt := getElem!_pos GM.arr _ hlt
  rw [h5]
  exact zero_cells _ (Array.mem_toList_iff.2 (Array.getElem_mem hlt))
 have hrow := St.newRow (W := W) e (n := n) (s := 32) (cs := madeCells (Value.agg GM.arr).cells (n * i.size)) (by rw [hsz, his]) hn
 rw [hcells] at hrow
 refine Js hd hw ?_ (h _ _ hrow)
 unfold execOp
 simp only [ho, hx, hy]
 simp [hr]
end
attribute [local simp] Jq
theorem tPathM_any (es : List (Nat × Dig)) (A : Option Addr) (n c k : Nat) (w : World) (hT : Tb w) (hx : SlR w A n c 33 (Jc es)) (hn : n ≤ 64) (hk : ∀ e ∈ es, e.1 < 4294967296) (hd : (es.map (·.1)).Nodup) (hk2 : k < 4294967296) :
  Calls Tryz.prog 46 #[.slice A n c, .int .i64 (k : Int)] w fun e w' => ∃ O oc, e = .returned (.tuple #[.slice O 32 oc, .nilIface]) ∧ St w w' [.row O 32 oc 32 32 (GP (MK (Hq es) k 32))] := by
 have Ga := St.refl w
 have HT := Gg hT
 have HS := Gg (fun (w' : World) (h : SlR w' A n c 33 (Jc es)) => tsorted_any es A n c w' h hn hk hd)
 have HK := Gg (fun w : World => by have h := tkey_any (k : Int) w; rw [decide_eq_true (show 0 ≤ (k : Int) ∧ (k : Int) < 4294967296 by omega)] at h; exact h)
 have HE := Gg (fun (ss : List (Nat × Dig)) (hs : ss.Pairwise fun a b => a.1 < b.1) (hp : ss.Perm es) => nodup_perm hs hp)
 have HB := Gg (fun (ss : List (Nat × Dig)) (hp : ss.Perm es) (e : Nat × Dig) (he : e ∈ ss) => hk e (hp.mem_iff.1 he))
 generalize hf : Hq es = f at *
 have Hk2 := Gg hk2
 have hZ := Gg (show GP (List.replicate 32 GM) = GP (pthN f k 32) from by rw [pthN_32])
 have h0Z := Gg (pthN_0 f k)
 clear hT hk hd hf hk2
 go_enter Tryz.func46, Tryz.ntmps46
 go_upto_region 1 with (go_big_may; fail)
 go_upto_region 2 with (go_big_may; (go_at_call 84; (try clear Gb); refine (HS.out _ (Ga.old (by decide) hx)).mono ?_; rintro e Ws ⟨ss, O, oc, rfl, hs, hp, Gb⟩; have HSP := Gg (And.intro hs hp); clear hs hp; replace Ga := Ga.trans Gb; simp only [Gc, Gd] at Ga))
 go_upto_region 4 with (go_big_may; fail)
 go_upto_region 6 with (go_big_may; (go_at_call 89; (try clear Gb); refine (HK.out _).mono ?_; rintro e Wk1 ⟨rfl, Gb⟩; replace Ga := Ga.keep Gb))
 (try clear Gb)
 go_upto_region 7 with (go_big_may; (refine L_makeD (d := some 24) (n := 32) rfl rfl rfl (by rfl) (by rfl) uz44 Gv (by decide) (by decide) ?_; intro Pp W24 Gb; replace Ga := Ga.trans Gb; simp only [Gc, Gd] at Ga; rw [hZ.out] at Ga))
 go_upto_region 8 with (go_big_may; fail)
 (try clear Gb)
 go_loopg [6, 9] 32 (fun gk s6 s9 wr => ∃ (own : List (Nat × Dig)) (A' : Option Addr) (n' c' : Nat), Hid (gk ≤ 32 ∧ (own.Pairwise fun x y => x.1 < y.1) ∧ (∀ e ∈ own, k / 2 ^ gk * 2 ^ gk ≤ e.1 ∧ e.1 < k / 2 ^ gk * 2 ^ gk + 2 ^ gk) ∧ (∀ x, k / 2 ^ gk * 2 ^ gk ≤ x → x < k / 2 ^ gk * 2 ^ gk + 2 ^ gk → Hq own x = f x)) ∧
  Hid (∀ V, SlR V O n oc 33 (Jc ss) → SlR V A' n' c' 33 (Jc own)) ∧ s9 = .int .i64 ((gk : Int) - 1) ∧ s6 = .slice A' n' c' ∧ St w wr [.row Pp 32 32 32 32 (GP (pthN f k gk)), .row O n oc 110 33 (Jc ss)])
 case atStart =>
  refine ⟨ss, O, n, oc, Lib.hid ⟨Nat.le_refl _, HSP.out.1, ?_, ?_⟩, Gg (fun V h => h), rfl, rfl, Ga⟩
  ·intro e he
   have := HB.out ss HSP.out.2 e he
   have hk := Hk2.out
   rw [Nat.div_eq_of_lt (by omega)]
   omega
  ·intro x _ _
   rw [HE.out ss HSP.out.1 HSP.out.2]
 case round =>
  clear Ga
  obtain ⟨es', A', n', c', HG, HO, rfl, rfl, Ga⟩ := hrel
  cases gk with
  | zero =>
   rw [h0Z.out] at Ga
   go_wp2_with (fail)
   go_ret2
   exact ⟨Pp, 32, rfl, Ga.pick [0] (by decide)⟩
  | succ b =>
   obtain ⟨hb32, g1, g2, g3⟩ := HG.out
   have hk := Hk2.out
   have hb31 : b ≤ 31 := by omega
   have e1 : ((b + 1 : Nat) : Int) - 1 = (b : Int) := by omega
   rw [e1]
   have hus := under_step (b := b) (k := k) g1 g2 rfl g3
   obtain ⟨q, hq1, hq2⟩ := sib_form hk hb31
   have hps := pthN_set f k b (by omega)
   have hds := digsL_putD (pthN f k (b + 1)) b (Jy f b (Nw b k)) (by rw [pthN_len]; omega)
   rw [hps] at hds
   have HSET := Gg (show List.take (((b : Nat) : Int).toNat * 32) (GP (pthN f k (b + 1))) ++ (Jy f b (Nw b k)).arr.toList ++ List.drop (((b : Nat) : Int).toNat * 32 + 32) (GP (pthN f k (b + 1))) = GP (pthN f k b) from hds)
   have HH := Gg (fun (w' : World) (h : SlR w' A' n' c' 33 (Jc es')) => halves_any es' A' n' c' b w' h hb31 (fun e he => by
    have h1 := g2 e he
    have h2 := par_le hk hb31
    omega))
   have HRT0 := fun (oth : List (Nat × Dig)) (ho1 : oth.Pairwise fun x y => x.1 < y.1) (ho2 : ∀ e ∈ oth, Nw b k ≤ e.1 ∧ e.1 < Nw b k + 2 ^ b) (ho3 : ∀ x, Nw b k ≤ x → x < Nw b k + 2 ^ b → Hq oth x = f x) (A1 : Option Addr) (n1 c1 : Nat) (w' : World) (ht : Tb w') (h : SlR w' A1 n1 c1 33 (Jc oth)) =>
    show Calls Tryz.prog 85 #[.slice A1 n1 c1, .int .i64 (b : Int)] w' fun e w'' => e = .returned (Jy f b (Nw b k)).v ∧ St w' w'' [] from by
     have h1 := troot_any b oth A1 n1 c1 q w' ht h (by omega) ho1 (fun e he => by rw [← hq1]; exact ho2 e he) hq2
     rw [← hq1, Mu b (Nw b k) ho3] at h1
     exact h1
   have hq : k / 2 ^ b < 2 ^ 63 := Nat.lt_of_le_of_lt (Nat.div_le_self _ _) (by omega)
   by_cases hb1 : k / 2 ^ b % 2 = 1
   ·obtain ⟨own, hown0⟩ : ∃ own, own = es'.drop (MN b es') := ⟨_, rfl⟩
    obtain ⟨oth, hoth0⟩ : ∃ oth, oth = es'.take (MN b es') := ⟨_, rfl⟩
    obtain ⟨u1, u2, u3, u4, u5, u6⟩ := hus own oth (by rw [if_pos hb1, hown0, hoth0])
    have HU := Gg (And.intro u1 (And.intro u2 u3))
    have HRT := Gg (HRT0 oth u4 u5 u6)
    have HB2 := Gg hb1
    rw [← hown0, ← hoth0] at HH
    clear u1 u2 u3 u4 u5 u6 hus HRT0 hb1 hown0 hoth0 g1 g2 g3 hq1 hq2 hps hds e1 HG hk
    generalize Jy f b (Nw b k) = rt at *
    generalize GP (pthN f k (b + 1)) = x1 at *
    generalize hx00 : GP (pthN f k b) = x0 at *
    have HX0 := Gg hx00
    clear hx00
    generalize Jc oth = eo at *
    generalize Jc es' = e' at *
    go_wp2_with (first | (go_at_call 90; (try clear Gb); refine (HH.out _ (HO.out _ (Ga.sl 1 rfl))).mono ?_; rintro e Wh ⟨A1, n1, c1, A2, n2, c2, rfl, hx1, hx2, Gb⟩; have HX1 := Gg hx1; have HX2 := Gg hx2; clear hx1 hx2; replace Ga := Ga.keep Gb; clear Gb) | (refine L_shrN (d := some 37) rfl rfl rfl (Gw rfl) (Gw rfl) (by omega) ?_) | (refine L_and1 (d := some 38) rfl rfl rfl (Gw rfl) GT hq ?_; rw [HB2.out]) | (go_at_call 85; (try clear Gb); refine (HRT.out _ _ _ _ (HT.out.of Ga) (HX1.out _ (HO.out _ (Ga.sl 1 rfl)))).mono ?_; rintro e Wr ⟨rfl, Gb⟩; replace Ga := Ga.keep Gb) | (refine MZ (d := some 48) rfl rfl Ga rfl (by rfl) (by rfl) uz44 Gv 0 rfl (by rfl) (by omega) (by omega) ?_; intro o48 p48 ha48; ((subst ha48))) | (refine GB (.store 32 (.tmp 48) (.tmp 47)) rfl ?_; (refine L_storeRM rfl rfl Ga rfl (by rfl) (Gw rfl) (Dig.one _) Gv (Dig.size _) 0 rfl (by (omega)) ?_; clear Ga; intro WS6 Ga; simp only [Ge, Gf, HSET.out] at Ga)))
    go_roundg b
    case measure => exact Nat.lt_succ_self b
    case rel =>
     refine ⟨own, A2, n2, c2, Lib.hid ⟨by omega, HU.out⟩, Gg (fun V hV => HX2.out V (HO.out V hV)), by go_num, rfl, ?_⟩
     rw [HX0.out]
     exact Ga
   ·obtain ⟨own, hown0⟩ : ∃ own, own = es'.take (MN b es') := ⟨_, rfl⟩
    obtain ⟨oth, hoth0⟩ : ∃ oth, oth = es'.drop (MN b es') := ⟨_, rfl⟩
    obtain ⟨u1, u2, u3, u4, u5, u6⟩ := hus own oth (by rw [if_neg hb1, hown0, hoth0])
    have HU := Gg (And.intro u1 (And.intro u2 u3))
    have HRT := Gg (HRT0 oth u4 u5 u6)
    have HB2 := Gg (show k / 2 ^ b % 2 = 0 by omega)
    rw [← hown0, ← hoth0] at HH
    clear u1 u2 u3 u4 u5 u6 hus HRT0 hb1 hown0 hoth0 g1 g2 g3 hq1 hq2 hps hds e1 HG hk
    generalize Jy f b (Nw b k) = rt at *
    generalize GP (pthN f k (b + 1)) = x1 at *
    generalize hx00 : GP (pthN f k b) = x0 at *
    have HX0 := Gg hx00
    clear hx00
    generalize Jc oth = eo at *
    generalize Jc es' = e' at *
    go_wp2_with (first | (go_at_call 90; (try clear Gb); refine (HH.out _ (HO.out _ (Ga.sl 1 rfl))).mono ?_; rintro e Wh ⟨A1, n1, c1, A2, n2, c2, rfl, hx1, hx2, Gb⟩; have HX1 := Gg hx1; have HX2 := Gg hx2; clear hx1 hx2; replace Ga := Ga.keep Gb; clear Gb) | (refine L_shrN (d := some 37) rfl rfl rfl (Gw rfl) (Gw rfl) (by omega) ?_) | (refine L_and1 (d := some 38) rfl rfl rfl (Gw rfl) GT hq ?_; rw [HB2.out]) | (go_at_call 85; (try clear Gb); refine (HRT.out _ _ _ _ (HT.out.of Ga) (HX2.out _ (HO.out _ (Ga.sl 1 rfl)))).mono ?_; rintro e Wr ⟨rfl, Gb⟩; replace Ga := Ga.keep Gb) | (refine MZ (d := some 48) rfl rfl Ga rfl (by rfl) (by rfl) uz44 Gv 0 rfl (by rfl) (by omega) (by omega) ?_; intro o48 p48 ha48; ((subst ha48))) | (refine GB (.store 32 (.tmp 48) (.tmp 47)) rfl ?_; (refine L_storeRM rfl rfl Ga rfl (by rfl) (Gw rfl) (Dig.one _) Gv (Dig.size _) 0 rfl (by (omega)) ?_; clear Ga; intro WS6 Ga; simp only [Ge, Gf, HSET.out] at Ga)))
    go_roundg b
    case measure => exact Nat.lt_succ_self b
    case rel =>
     refine ⟨own, A1, n1, c1, Lib.hid ⟨by omega, HU.out⟩, Gg (fun V hV => HX1.out V (HO.out V hV)), by go_num, rfl, ?_⟩
     rw [HX0.out]
     exact Ga
end
section
open Go.RowKit
theorem St.oldR {w0 W : World} {L : List Res} {b o : Nat} {xs : List Value} (h : St w0 W L) (hr : w0.rangeAt b o xs) (hx : xs ≠ []) : W.rangeAt b o xs := Ns hr (h.below.block b (rangeAt_lt hr hx))
theorem hdArr_ne (n : Int) (x y z : Dig) : (H9 n x y z).toList ≠ [] := by rw [KQ]; exact List.cons_ne_nil _ _
def KS (A : Option Addr) (m c : Nat) (n : Int) (x y z : Dig) : Array Value := (.slice A m c :: (H9 n x y z).toList).toArray
theorem PS (A : Option Addr) (m c : Nat) (n : Int) (x y z : Dig) : (KS A m c n x y z).size = 98 := by simp [KS, GR]
theorem pinArr_list (A : Option Addr) (m c : Nat) (n : Int) (x y z : Dig) : (KS A m c n x y z).toList = .slice A m c :: (H9 n x y z).toList := rfl
theorem pinArr_0 {A : Option Addr} {m c : Nat} {n : Int} {x y z : Dig} : (KS A m c n x y z)[0]? = some (.slice A m c) := rfl
theorem pinArr_head {W : World} {g t : Nat} {A : Option Addr} {m c : Nat} {n : Int} {x y z : Dig} {fr : Nat × Nat} (h : W.heap[g]? = some (.cells (KS A m c n x y z) t fr)) : W.rangeAt g 1 (H9 n x y z).toList :=
 MS h (fun j v hv => by rw [pinArr_list, Nat.add_comm, List.getElem?_cons_succ]; exact hv)
theorem pinArr_put (A : Option Addr) (m c : Nat) (n n' : Int) (x y z x' y' z' : Dig) : Jg (KS A m c n x y z) 1 (H9 n' x' y' z').toList = KS A m c n' x' y' z' := by
 unfold Jg
 rw [pinArr_list]
 apply Array.ext'
 have h1 := GR n x y z
 have h2 := GR n' x' y' z'
 rw [List.take_succ_cons, List.take_zero, Array.length_toList, h2, show 1 + 97 = 97 + 1 from rfl, List.drop_succ_cons, List.drop_of_length_le (by rw [Array.length_toList, h1]; exact Nat.le_refl _), List.append_nil]
 rfl
theorem MV (n : Int) (x y z d : Dig) : Jg (H9 n x y z) 1 d.arr.toList = H9 n d y z := by
 have l : ∀ d : Dig, d.arr.toList.length = 32 := fun d => by simp [Dig.size]
 unfold Jg
 rw [KQ]
 apply Array.ext'
 rw [List.take_succ_cons, List.take_zero, l, show 1 + 32 = 32 + 1 from rfl, List.drop_succ_cons, List.drop_left' (l x)]
 rfl
section
variable {P : Program} {ops : Array Oper} {rest : List Oper} {o : Oper} {a : Act} {W : World} {Q : Exit → Act → World → Prop} {d : Option Tmp}
theorem L_buildG (hd : o.dst = d) (hw : Region.wanted o (yielded ops a.tmps) = true) {T : TypeId} {x : Operand} (ho : o.op = .build T #[(1, x)]) {f0 f1 f2 f3 : Field} (hu : P.underlying T = some (.struct #[f0, f1, f2, f3])) {z0 z1 z2 z3 : Value} {s0 s2 s3 b0 b1 b2 b3 : Nat} (h0 : GW P f0.type z0 s0 b0) (h1 : GW P f1.type z1 32 b1) (h2 : GW P f2.type z2 s2 b2) (h3 : GW P f3.type z3 s3 b3) (o1 : f1.offset = 1)
  {cs : Array Value} {s b : Nat} (he : GW P T (.agg cs) s b) (hcs : 33 ≤ cs.size) {q : Dig} (hx : a.eval x = .agg q.arr)
  (h : wpList P ops Q rest (a.put d (.agg (Jg cs 1 q.arr.toList))) W) : wpList P ops Q (o :: rest) a W := by
 refine Js hd hw ?_ h
 have hq : q.arr.size = 32 := Dig.size q
 have hf := P2 q.arr.toList 0 1 cs (by simp [hq]; omega)
 have hz : (q.arr.zipIdx.foldl (fun cs x => cs.setIfInBounds (1 + x.2) x.1) cs) = Jg cs 1 q.arr.toList := by
  rw [← Array.foldl_toList, Array.toList_zipIdx]
  simpa using hf
 rw [show q.arr.zipIdx.size = 32 by simp [hq]] at hz
 unfold execOp
 simp only [ho]
 have hfill : Instr.fill (fun x => ([(f0.offset, s0), (1, 32), (f2.offset, s2), (f3.offset, s3)] : List (Nat × Nat))[x]?) cs [(1, .agg q.arr)] = some (Jg cs 1 q.arr.toList) := by
  have e1 : ¬ (cs.size < 33) := by omega
  simp [Instr.fill, Value.cells, hq, hcs, hz]
 simp [Instr.build, he.run_zero, run_underlying hu, Value.cells, hx, h0.run_size, h1.run_size, h2.run_size, h3.run_size, o1]
 rw [hfill]
 rfl
end
theorem el_pin_Pin : GW Tryz.prog 165 (.agg (KS none 0 0 0 GM GM GM)) 98 128 := by unfold GW; kernel_rfl
section
variable {ops : Array Oper} {rest : List Oper} {o : Oper} {a : Act} {W : World} {Q : Exit → Act → World → Prop} {d : Option Tmp}
theorem L_buildPin (hd : o.dst = d) (hw : Region.wanted o (yielded ops a.tmps) = true) {x y : Operand} (ho : o.op = .build 165 #[(0, x), (1, y)]) {A : Option Addr} {m c : Nat} (hx : a.eval x = .slice A m c) {n : Int} {p q r : Dig} (hy : a.eval y = .agg (H9 n p q r))
  (h : wpList Tryz.prog ops Q rest (a.put d (.agg (KS A m c n p q r))) W) : wpList Tryz.prog ops Q (o :: rest) a W := by
 refine Js hd hw ?_ h
 unfold execOp
 simp only [ho]
 have hs := GR n p q r
 have hz := el_pin_Pin.run_zero W
 have h1 := K6.run_size W
 have h2 := GS.run_size W
 have hf := P2 (H9 n p q r).toList 0 1 (KS A m c 0 GM GM GM) (by simp [hs, PS])
 have h3 : Array.foldl (fun (cs : Array Value) (x : Value × Nat) => cs.setIfInBounds (1 + x.snd) x.fst) (KS A m c 0 GM GM GM) (H9 n p q r).zipIdx 0 97 = KS A m c n p q r := by
  have e1 : 97 = (H9 n p q r).zipIdx.size := by simp [hs]
  rw [e1, ← Array.foldl_toList, Array.toList_zipIdx]
  rw [show (1 + 0) = 1 from rfl, pinArr_put] at hf
  simpa using hf
 have h4 : (KS none 0 0 0 GM GM GM).setIfInBounds 0 (.slice A m c) = KS A m c 0 GM GM GM := rfl
 have h5 : KS none 0 0 0 GM GM GM ≠ #[] := fun e => by have := PS none 0 0 0 GM GM GM; rw [e] at this; exact absurd this (by decide)
 simp [Instr.build, hz, run_underlying Tryz.underlying165, h1, h2, hx, hy, Value.cells, Instr.fill, hs, h3, h4, h5, PS]
end
theorem pnew_any (key : List UInt8) (K : Option Addr) (m mc : Nat) (w : World) (hT : Tb w) (hk : SlR w K m mc 1 (GK key)) (hm : m ≤ 140737488355000) :
  Calls Tryz.prog 65 #[.slice K m mc] w fun e w' => ∃ g O oc, e = .returned (.pointer (some ⟨g, 0, none⟩)) ∧ St w w' [.blk g 165 (KS O m oc 0 (sha []) GM GM), .row O m oc 5 1 (GK key)] := by
 have Ga := St.refl w
 have HT := Gg hT
 clear hT
 go_enter Tryz.func65, Tryz.ntmps65
 go_wp2_with (first | (go_at_call 30; refine (cloneB_any key _ _ _ _ (Ga.old (by decide) hk) (by omega)).mono ?_; rintro e W4 ⟨O4, c4, rfl, Gb⟩; replace Ga := Ga.trans Gb; simp only [Gc, Gd] at Ga; clear Gb) | (go_at_call 80; refine (NS [] none 0 0 _ (HT.out.of Ga) (by simp [SlR, GK]) (by decide)).mono ?_; rintro e W5 ⟨rfl, Gb⟩; replace Ga := Ga.keep Gb; clear Gb) | (refine L_buildG (d := some 6) rfl rfl rfl uz41 Jo Gv Gv Gv rfl GS (by rw [GR]; decide) (Gw rfl) ?_; rw [MV]) | (refine L_buildPin (d := some 7) rfl rfl rfl (Gw rfl) (Gw rfl) ?_) | (refine Gm 8 rfl (Gw rfl) ?_; (try clear Gb); intro g8 W8 Gb; replace Ga := Ga.tr1 Gb))
 go_ret
 exact ⟨_, _, _, rfl, Ga⟩
theorem held_any (g t m c : Nat) (A : Option Addr) (n : Int) (x y z : Dig) (fr : Nat × Nat) (w : World) (hg : w.heap[g]? = some (.cells (KS A m c n x y z) t fr)) :
  Calls Tryz.prog 110 #[.pointer (some ⟨g, 0, none⟩)] w fun e w' => e = .returned (.agg (H9 n x y z)) ∧ St w w' [] := by
 have Ga := St.refl w
 have hr := pinArr_head hg
 clear hg
 go_enter Tryz.func110, Tryz.ntmps110
 go_wp2_with (first | (refine Gk 2 rfl GS ?_; (try clear Gb); intro g2 W2 Gb; replace Ga := Ga.tr1 Gb) | (refine Gn 6 rfl (by rfl) uz41 rfl GS (Ga.oldR hr (hdArr_ne _ _ _ _)) (GR _ _ _ _) ?_) | ((refine Gr 2 6 Ga rfl (by rfl) (Gw rfl) (Jr _ _ _ _) GS (GR _ _ _ _) 0 rfl (by rfl) ?_; clear Ga; intro WS4 Ga; simp only [Ge, Gf] at Ga)))
 refine Hw rfl rfl rfl (Ga.get 0 rfl) uz41 rfl GS (GR _ _ _ _) ?_
 exact ⟨rfl, Ga.forget⟩
theorem first_any (w : World) : Calls Tryz.prog 66 #[] w fun e w' => e = .returned (.agg (H9 0 (sha []) GM GM)) ∧ St w w' [] := by
 have Ga := St.refl w
 go_enter Tryz.func66, Tryz.ntmps66
 go_wp2_with (first | (go_at_call 76; refine (Ng [] none 0 0 _ (by simp [SlR, GK]) (by decide)).mono ?_; rintro e W5 ⟨rfl, Gb⟩; replace Ga := Ga.keep Gb; clear Gb) | (refine L_buildG (d := some 2) rfl rfl rfl uz41 Jo Gv Gv Gv rfl GS (by rw [GR]; decide) (Gw rfl) ?_; rw [MV]) | (refine Gk 0 rfl GS ?_; (try clear Gb); intro g0 W0 Gb; replace Ga := Ga.tr1 Gb) | ((refine Gr 0 2 Ga rfl (by rfl) (Gw rfl) (Jr _ _ _ _) GS (by rfl) 0 rfl (by rfl) ?_; clear Ga; intro WS2 Ga; simp only [Ge, Gf] at Ga)))
 refine Hw rfl rfl rfl (Ga.get 0 rfl) uz41 rfl GS (GR _ _ _ _) ?_
 exact ⟨rfl, Ga.forget⟩
end
section
open Go.RowKit
theorem St.swap {w0 W : World} {X Y L : List Res} (h : St w0 W (X ++ (Y ++ L))) : St w0 W (Y ++ (X ++ L)) :=
 h.perm (by
  rw [← List.append_assoc, ← List.append_assoc]
  exact (List.perm_append_comm).append_right L)
theorem hdArr_putMap (n : Int) (x y z d : Dig) : Jg (H9 n x y z) 33 d.arr.toList = H9 n x d z :=
 Kr (cs := H9 n x y z) (ds := H9 n x d z) (.int .i64 n :: x.arr.toList) y.arr.toList d.arr.toList z.arr.toList (by rw [KQ]; simp) (by rw [KQ]; simp) (by rw [Kb, Kb]) (by simp [Dig.size])
section
variable {ops : Array Oper} {rest : List Oper} {o : Oper} {a : Act} {W : World} {Q : Exit → Act → World → Prop} {d : Option Tmp}
theorem L_buildHd (hd : o.dst = d) (hw : Region.wanted o (yielded ops a.tmps) = true) {x : Operand} (ho : o.op = .build 41 #[(0, x)]) {n : Int} (hx : a.eval x = .int .i64 n)
  (h : wpList Tryz.prog ops Q rest (a.put d (.agg (H9 n GM GM GM))) W) : wpList Tryz.prog ops Q (o :: rest) a W :=
 Mb hd hw ho uz41 GS [(0, 1), (1, 32), (33, 32), (65, 32)] (by kernel_rfl) (ps := [(0, .int .i64 n)]) (by simp [hx]) (qs := [(0, [.int .i64 n])])
  ⟨rfl, rfl, by simp [GR], trivial⟩
  (Kr (cs := H9 0 GM GM GM) (ds := H9 n GM GM GM) [] [.int .i64 0] [.int .i64 n] (GM.arr.toList ++ (GM.arr.toList ++ GM.arr.toList)) rfl rfl rfl rfl) h
end
def Mc (key : List UInt8) (ns : List NoteN) : Dig := tagN key (ns.length : Int) (G4 (lvN ns)) (Jz ns)
attribute [local simp] GR
theorem since_any (key : List UInt8) (ns : List NoteN) (p : LgP) (m : Int) (w0 w : World) (L : List Res) (hT : Tb w0) (Ga : St w0 w (lgL p key ns ++ L)) (hl : Logged ns) (h1 : 1 ≤ m) (h2 : m ≤ (ns.length : Int)) :
  Calls Tryz.prog 19 #[.pointer (some ⟨p.g, 0, none⟩), .int .i64 m] w fun e w' => ∃ O oc, e = .returned (.tuple #[.slice O (plN ns.length m.toNat true) oc, .nilIface]) ∧
   St w0 w' (.row O (plN ns.length m.toNat true) oc 32 32 (GP (gpN (lvN ns) m.toNat true)) :: (lgL p key ns ++ L)) := by
 have hn := hl.len
 obtain ⟨k, rfl⟩ := Int.eq_ofNat_of_zero_le (show 0 ≤ m by omega)
 rw [Int.toNat_natCast]
 obtain ⟨g, mm, c, lc, Mn, Ma, A, O0, nm, am⟩ := p
 have hst0 := Ga
 simp only [lgL, Gc, Gd] at Ga
 have HP := Gg (gProof_any (lvN ns) O0 ns.length lc k w (hT.of Ga) (Ga.sl 2 rfl) (by omega) (by omega) hn)
 go_enter Tryz.func19, Tryz.ntmps19
 go_wp2_with (first | (go_at_call 51; refine HP.out.mono ?_; rintro e W21 ⟨O, oc, rfl, Gb⟩; replace Ga := hst0.trans Gb) | (refine Gj 9 rfl (by rfl) uz44 rfl (Gy (Ga.get 0 rfl) KH) ?_))
 exact bp_two rfl rfl rfl rfl ⟨_, _, rfl, Ga⟩
end
section
structure DkS where
 ns : List NoteN
 j : Nat
 z : Dig
def DkOk (s : DkS) : Prop := Logged s.ns ∧ s.j ≤ s.ns.length
def PT (ns : List NoteN) (s : List UInt8) : Nat × Option NoteN := PQ (ns.length : Int) (G4 (lvN ns)) (Jz ns) s (Jd ns s)
def N2 (ns : List NoteN) (s : List UInt8) : Nat × List UInt8 :=
 if (PT ns s).1 = 0 then (0, match (PT ns s).2 with | none => tNone | some n => NB n.key.l ++ [32] ++ Lib.itoa n.turn) else ((PT ns s).1, [])
open Classical in
noncomputable def PJ (s : DkS) (m : List UInt8) : DkS × (Nat × List UInt8) :=
 if spI m < m.length ∧ hx64 (m.drop (spI m + 1)) then
  (if Kk s.ns (m.take (spI m)) = 0 then (⟨addL s.ns (m.take (spI m)) (PY (m.drop (spI m + 1))), s.j, s.z⟩, (0, Lib.decDigits s.ns.length)) else (s, (Kk s.ns (m.take (spI m)), [])))
 else (s, (1, []))
noncomputable def Jp (key : List UInt8) (s : DkS) (l : List UInt8) : DkS × (Nat × List UInt8) :=
 if l = Ki then (s, (0, Np s.ns.length (G4 (lvN s.ns)) (Jz s.ns)))
 else if l = Kw then (s, (0, Np s.j (G4 (lvN (s.ns.take s.j))) (Jz (s.ns.take s.j))))
 else if l = KM then (⟨s.ns, s.ns.length, Mc key s.ns⟩, (0, tOk))
 else if NU l Mj = true then (s, N2 s.ns (l.drop 5))
 else if NU l Nk = true then PJ s (l.drop 4)
 else (s, (1, []))
def N3 (p : Nat × List UInt8) : List UInt8 := if p.1 = 0 then p.2 else Pa p.1
theorem spI_at (l : List UInt8) (h : spI l < l.length) : l[spI l]? = some 32 := by
 rw [List.getElem?_eq_getElem h]
 have h' : List.findIdx (fun b => b == 32) l < l.length := h
 have h2 := List.findIdx_getElem (w := h')
 have h3 : l[List.findIdx (fun b => b == 32) l] = 32 := by simpa using h2
 exact congrArg some h3
theorem beg_iff (l a : List UInt8) (ha : ∀ b ∈ a, b ≠ 32) : NU l (a ++ [32]) = true ↔ spI l < l.length ∧ l.take (spI l) = a := by
 unfold NU
 rw [decide_eq_true_iff, List.length_append, List.length_singleton]
 constructor
 ·intro h
  have hl : a.length + 1 ≤ l.length := by
   have := congrArg List.length h
   rw [List.length_take, List.length_append, List.length_singleton] at this
   omega
  have e : l = a ++ (32 :: l.drop (a.length + 1)) := by
   have := List.take_append_drop (a.length + 1) l
   rw [h, List.append_assoc] at this
   exact this.symm
  have hi : spI l = a.length := by
   unfold spI
   rw [e, List.findIdx_append, if_neg]
   ·simp [List.findIdx_cons]
   ·rw [List.findIdx_eq_length.2 (fun b hb => by simpa using ha b hb)]
    exact Nat.lt_irrefl _
  rw [hi]
  refine ⟨by omega, ?_⟩
  rw [e, List.take_left]
 ·rintro ⟨h1, h2⟩
  have hi : spI l = a.length := by
   have := congrArg List.length h2
   rw [List.length_take] at this
   omega
  rw [hi] at h1 h2
  have h3 := spI_at l (by rw [hi]; exact h1)
  rw [hi, List.getElem?_eq_getElem h1] at h3
  rw [List.take_succ_eq_append_getElem h1, h2, Option.some.inj h3]
theorem beg_len (l a : List UInt8) (ha : ∀ b ∈ a, b ≠ 32) (h : NU l (a ++ [32]) = true) : spI l = a.length ∧ spI l < l.length := by
 have := (beg_iff l a ha).1 h
 refine ⟨?_, this.1⟩
 have h2 := congrArg List.length this.2
 rw [List.length_take] at h2
 omega
theorem beg_add (l : List UInt8) : NU l Nk = true ↔ spI l < l.length ∧ l.take (spI l) = tAdd := beg_iff l tAdd (by decide)
theorem beg_find (l : List UInt8) : NU l Mj = true ↔ spI l < l.length ∧ l.take (spI l) = tFind := beg_iff l tFind (by decide)
theorem beg_add_len (l : List UInt8) (h : NU l Nk = true) : spI l = 3 := (beg_len l tAdd (by decide) h).1
theorem beg_find_len (l : List UInt8) (h : NU l Mj = true) : spI l = 4 := (beg_len l tFind (by decide) h).1
theorem lookN_some {n : Int} {x y : Dig} {s : List UInt8} {f : FoundN} {nt : NoteN} (h : (PQ n x y s f).2 = some nt) : nt = f.note ∧ JN nt = true := by
 unfold PQ at h
 split at h
 ·split at h
  ·split at h <;> cases h
  ·split at h
   ·rename_i hk
    split at h
    ·simp only [Option.some.injEq] at h
     exact ⟨h.symm, by rw [← h]; exact hk.1⟩
    ·cases h
   ·cases h
 ·cases h
theorem lookN_le (n : Int) (x y : Dig) (s : List UInt8) (f : FoundN) : (PQ n x y s f).1 ≤ 9 := by
 unfold PQ
 split
 ·split
  ·split <;> simp
  ·split
   ·split <;> simp
   ·simp
 ·simp
theorem addE_le (ns : List NoteN) (s : List UInt8) : Kk ns s ≤ 9 := by
 unfold Kk
 split
 ·split
  ·decide
  ·split <;> decide
 ·decide
theorem addL_len (ns : List NoteN) (s : List UInt8) (k : Dig) : ns.length ≤ (addL ns s k).length := by
 unfold addL
 split
 ·simp
 ·exact Nat.le_refl _
theorem DkOk.ans (key : List UInt8) {s : DkS} (h : DkOk s) (l : List UInt8) : DkOk (Jp key s l).1 := by
 unfold Jp
 split
 ·exact h
 split
 ·exact h
 split
 ·exact ⟨h.1, Nat.le_refl _⟩
 split
 ·exact h
 split
 ·unfold PJ
  split
  ·split
   ·refine ⟨h.1.addL _ _, Nat.le_trans h.2 ?_⟩
    exact addL_len _ _ _
   ·exact h
  ·exact h
 ·exact h
end
section
def P0 (es : List (Nat × Dig)) (frm many : Nat) : List (Nat × Dig) := es.filter fun e => decide (frm ≤ e.1 ∧ e.1 < frm + many)
theorem undN_take {es : List (Nat × Dig)} {i : Nat} (h : i < es.length) (frm many : Nat) : P0 (es.take (i + 1)) frm many = if frm ≤ es[i].1 ∧ es[i].1 < frm + many then P0 (es.take i) frm many ++ [es[i]] else P0 (es.take i) frm many := by
 unfold P0
 rw [List.take_succ_eq_append_getElem h, List.filter_append]
 by_cases hc : frm ≤ es[i].1 ∧ es[i].1 < frm + many
 ·rw [if_pos hc, List.filter_cons_of_pos (by simpa using hc)]; rfl
 ·rw [if_neg hc, List.filter_cons_of_neg (by simpa using hc), List.filter_nil, List.append_nil]
theorem undN_len (es : List (Nat × Dig)) (frm many : Nat) : (P0 es frm many).length ≤ es.length := List.length_filter_le _ _
theorem undN_keys {es : List (Nat × Dig)} {frm many : Nat} (h : ∀ e ∈ es, e.1 < 4294967296) : ∀ e ∈ P0 es frm many, e.1 < 4294967296 := fun e he => h e (List.mem_filter.1 he).1
theorem leafAt_undN (es : List (Nat × Dig)) {frm many k : Nat} (h1 : frm ≤ k) (h2 : k < frm + many) : Hq (P0 es frm many) k = Hq es k :=
 MR es (fun x => decide (frm ≤ x ∧ x < frm + many)) (decide_eq_true ⟨h1, h2⟩)
theorem mRoot_undN (es : List (Nat × Dig)) (b frm : Nat) : Jy (Hq (P0 es frm (2 ^ b))) b frm = Jy (Hq es) b frm := Mu b frm fun _ h1 h2 => leafAt_undN es h1 h2
theorem mRoot_und_none {es : List (Nat × Dig)} {b frm : Nat} (h : P0 es frm (2 ^ b) = []) : Jy (Hq es) b frm = GM := by
 rw [← mRoot_undN, h, mRoot_empty]
theorem mRoot_und_one {es : List (Nat × Dig)} {frm : Nat} {x : Nat × Dig} {xs : List (Nat × Dig)} (h : P0 es frm 1 = x :: xs) : Jy (Hq es) 0 frm = K2 x.1 x.2 := by
 have h0 : x ∈ P0 es frm 1 := by rw [h]; exact List.mem_cons_self ..
 have hx := of_decide_eq_true (List.mem_filter.1 h0).2
 have e : x.1 = frm := by omega
 have h1 := leafAt_undN es (frm := frm) (many := 1) (k := frm) (Nat.le_refl _) (by omega)
 show Hq es frm = _
 rw [← h1, h]
 unfold Hq
 rw [List.find?_cons_of_pos (by simp [e]), e]
theorem mRoot_und_s (es : List (Nat × Dig)) (b frm : Nat) : Jy (Hq es) (b + 1) frm = Nf (Jy (Hq (P0 es frm (2 ^ (b + 1)))) b frm) (Jy (Hq (P0 es frm (2 ^ (b + 1)))) b (frm + 2 ^ b)) := by
 rw [← mRoot_undN es (b + 1) frm, mRoot_s]
theorem side_at (k b : Nat) : k % (2 * 2 ^ b) = k - k / 2 ^ b / 2 * (2 * 2 ^ b) := by
 have h := Nat.div_add_mod k (2 * 2 ^ b)
 rw [show k / (2 * 2 ^ b) = k / 2 ^ b / 2 by rw [Nat.mul_comm, Nat.div_div_eq_div_mul], Nat.mul_comm] at h
 omega
theorem sib_ref (k b : Nat) : (let f := k - k % (2 * 2 ^ b); if k - f < 2 ^ b then f + 2 ^ b else f) = Nw b k := by
 have hm := side_at k b
 have hq : k / 2 ^ b * 2 ^ b ≤ k := Nat.div_mul_le_self k (2 ^ b)
 have hr : k < k / 2 ^ b * 2 ^ b + 2 ^ b := by
  have := Nat.lt_div_mul_add (a := k) (b := 2 ^ b) (Nat.two_pow_pos b)
  exact this
 unfold Nw
 generalize k / 2 ^ b = q at *
 have e : q / 2 * (2 * 2 ^ b) = (q - q % 2) * 2 ^ b := by
  rw [← Nat.mul_assoc]; congr 1; omega
 rw [e] at hm
 rcases Nat.mod_two_eq_zero_or_one q with h | h
 ·rw [h] at hm
  rw [if_neg (by omega : ¬ q % 2 = 1)]
  have h1 : k - k % (2 * 2 ^ b) = q * 2 ^ b := by
   rw [hm, Nat.sub_zero]; omega
  simp only [h1]
  rw [if_pos (by omega), Nat.succ_mul]
 ·rw [h] at hm
  rw [if_pos h]
  have e2 : (q - 1) * 2 ^ b + 2 ^ b = q * 2 ^ b := by rw [← Nat.succ_mul]; congr 1; omega
  have h1 : k - k % (2 * 2 ^ b) = (q - 1) * 2 ^ b := by rw [hm]; omega
  simp only [h1]
  rw [if_neg (by omega)]
def enR (ns : List NoteN) (i : Nat) : Nat × Dig := match ns[i]? with | some n => (Jf n.name, Jm n) | none => (0, GM)
def lastsN (ns : List NoteN) (i : Nat) : List Nat := (List.range i).filter fun i => decide ((ns[i]?.bind fun n => Ho ns n.name) = some i)
def NM (ns : List NoteN) (i : Nat) : List (Nat × Dig) := (lastsN ns i).map (enR ns)
theorem entR_len (ns : List NoteN) (i : Nat) : (NM ns i).length ≤ i := by
 unfold NM lastsN
 rw [List.length_map]
 have := List.length_filter_le (fun i => decide ((ns[i]?.bind fun n => Ho ns n.name) = some i)) (List.range i)
 rw [List.length_range] at this
 exact this
theorem entR_s {ns : List NoteN} {i : Nat} (h : i < ns.length) : NM ns (i + 1) = if Ho ns ns[i].name = some i then NM ns i ++ [(Jf ns[i].name, Jm ns[i])] else NM ns i := by
 have he : enR ns i = (Jf ns[i].name, Jm ns[i]) := by unfold enR; rw [List.getElem?_eq_getElem h]
 unfold NM lastsN
 rw [List.range_succ, List.filter_append, List.map_append]
 by_cases hc : Ho ns ns[i].name = some i
 ·rw [if_pos hc, List.filter_cons_of_pos (by rw [List.getElem?_eq_getElem h]; simpa using hc)]
  simp [he]
 ·rw [if_neg hc, List.filter_cons_of_neg (by rw [List.getElem?_eq_getElem h]; simpa using hc)]
  simp
theorem entR_keys (ns : List NoteN) (i : Nat) : ∀ e ∈ NM ns i, e.1 < 4294967296 := fun e he => by
 obtain ⟨j, _, rfl⟩ := List.mem_map.1 he
 unfold enR
 split
 ·exact Mo _
 ·decide
theorem mem_lasts {ns : List NoteN} {j : Nat} (h : j ∈ lastsN ns ns.length) : ∃ n, ns[j]? = some n ∧ Ho ns n.name = some j := by
 have := of_decide_eq_true (List.mem_filter.1 h).2
 obtain ⟨n, h1, h2⟩ := Option.bind_eq_some_iff.1 this
 exact ⟨n, h1, h2⟩
theorem entR_nodup {ns : List NoteN} (h : Logged ns) : ((NM ns ns.length).map (·.1)).Nodup := by
 unfold NM
 rw [List.map_map]
 have hn : (lastsN ns ns.length).Nodup := List.nodup_range.filter _
 refine List.pairwise_map.2 (hn.imp_of_mem ?_)
 intro a b ha hb hab he
 obtain ⟨n, h1, h2⟩ := mem_lasts ha
 obtain ⟨m, h3, h4⟩ := mem_lasts hb
 simp only [Function.comp, enR, h1, h3] at he
 have := h.idx n (List.mem_of_getElem? h1) m (List.mem_of_getElem? h3) he
 rw [this, h4] at h2
 exact hab (Option.some.inj h2).symm
theorem leafAt_entR {ns : List NoteN} (h : Logged ns) : Hq (NM ns ns.length) = lgF ns := by
 funext k
 by_cases hk : ∃ n ∈ ns, Jf n.name = k
 ·obtain ⟨n, hn, rfl⟩ := hk
  cases hl : Ho ns n.name with
  | none => exact absurd rfl (Nz.1 hl n hn)
  | some j =>
   obtain ⟨m, h1, h2⟩ := JO hl
   have hm : lastN? ns n.name = some m := by unfold lastN?; rw [hl]; exact h1
   rw [h.lgF_at hm]
   have hj : j ∈ lastsN ns ns.length := List.mem_filter.2 ⟨List.mem_range.2 (PC hl), by rw [h1]; simp [h2, hl]⟩
   have he : (Jf n.name, Jm m) ∈ NM ns ns.length := List.mem_map.2 ⟨j, hj, by unfold enR; rw [h1]; simp [h2]⟩
   exact NT (entR_nodup h) he
 ·rw [lgF_none (fun n hn he => hk ⟨n, hn, he⟩), PM]
  intro e he hek
  obtain ⟨j, hj, rfl⟩ := List.mem_map.1 he
  obtain ⟨n, h1, _⟩ := mem_lasts hj
  refine hk ⟨n, List.mem_of_getElem? h1, ?_⟩
  rw [← hek]
  unfold enR
  rw [h1]
theorem mapN_ent {ns : List NoteN} (h : Logged ns) : Jy (Hq (NM ns ns.length)) 32 0 = Jz ns := by
 rw [leafAt_entR h]; rfl
end
section
open Go.RowKit
theorem MI {P : Program} {ops : Array Oper} {rest : List Oper} {o : Oper} {a : Act} {W : World} {Q : Exit → Act → World → Prop} {d : Option Tmp} (hd : o.dst = d) (hw : Region.wanted o (yielded ops a.tmps) = true) {t : TypeId} {x y : Operand} (ho : o.op = .index t x y) (hu : P.underlying t = some .string) {s : ByteArray} (hx : a.eval x = .string s) {k : IntKind} {i : Int} (hy : a.eval y = .int k i) (j : Nat) (hj : i = (j : Int)) {b : UInt8} (hb : s[j]? = some b)
  (h : wpList P ops Q rest (a.put d (.int .u8 (b.toNat : Int))) W) : wpList P ops Q (o :: rest) a W := by
 subst hj
 refine Js hd hw ?_ h
 unfold execOp
 simp only [ho, hx, hy]
 simp [Instr.index, asIntOf, run_underlying hu, hb]
end
section
open Go.RowKit
theorem len_byte (n : Nat) (h : n < 256) : IntKind.u8.wrap (n : Int) = ((UInt8.ofNat n).toNat : Int) := by
 rw [UInt8.toNat_ofNat']
 show (n : Int) % 256 = _
 omega
attribute [local simp] GN
theorem ntKey_sl {W : World} {g t : Nat} {s : List UInt8} {k : Dig} {n : Int} {fr : Nat × Nat} (h : W.heap[g]? = some (.cells (Ha s k n) t fr)) : SlR W (some ⟨g, 1, none⟩) 32 32 1 (GK k.l) :=
 ⟨by rw [G7, k.h], Nat.le_refl _, by decide, fun _ => ⟨g, 1, rfl, by have := MG h; rwa [Dig.toList] at this⟩⟩
theorem nwrite_any (n : NoteN) (w : World) (h : JN n = true) :
  Calls Tryz.prog 81 #[.agg (Ha n.name n.key n.turn)] w fun e w' => ∃ A c, e = .returned (.tuple #[.slice A (KZ n).length c, .nilIface]) ∧ St w w' [.row A (KZ n).length c 5 1 (GK (KZ n))] := by
 have Ga := St.refl w
 have h' := h
 unfold JN at h'
 rw [Bool.and_eq_true] at h'
 obtain ⟨h1, h3⟩ := h'
 have h2 := of_decide_eq_true h3
 clear h3
 have hl := J0 h1
 have HN := Gg (fun w => by have := JW n.name w; rw [h1] at this; exact this)
 obtain ⟨t, ht⟩ := Int.eq_ofNat_of_zero_le h2.1
 have hB := Nh n
 have HB := Gg (show KZ n = [UInt8.ofNat n.name.length] ++ (n.name ++ (n.key.l ++ Mp 4 t)) by rw [KZ, ht]; rfl)
 have HP := Gg (fun w : World => oput_any t 4 w (by decide) (by decide) (by omega) (fun _ => by rw [Nat.shiftRight_eq_div_pow]; omega))
 generalize KZ n = bs at *
 obtain ⟨s, k, m⟩ := n
 simp only at *
 have HL := Gg (len_byte s.length (by omega))
 have hz := Gg (Hf s)
 have HBl := Gg hB
 clear hB
 subst ht
 clear h h1 h2
 go_enter Tryz.func81, Tryz.ntmps81
 go_upto_region 1 with (go_big_may; (refine Gm 1 rfl (Gw rfl) ?_; (try clear Gb); intro g1 W1 Gb; replace Ga := Ga.tr1 Gb))
 go_upto_region 3 with (go_big_may; first | (go_at_call 34; (try clear Gb); refine (HN.out _).mono ?_; rintro e Wk1 ⟨rfl, Gb⟩; replace Ga := Ga.keep Gb) | (refine Gj 7 rfl (by rfl) uz9 rfl (Gy (Ga.get 0 rfl) Kf) ?_))
 go_upto_region 4 with (go_big_may; first | (go_at_call 60; refine (HP.out _).mono ?_; rintro e Wp ⟨Op, rfl, Gb⟩; replace Ga := Ga.trans Gb; simp only [Gc, Gd] at Ga; clear Gb) | (refine Gj 13 rfl (by rfl) uz3 rfl (Gy (Ga.get 0 rfl) KN) ?_))
 go_upto_region 6 with (go_big_may; fail)
 have HU := Gg (show [Value.int .u8 (((GZ s).size : Int) % 256)] = GK [UInt8.ofNat s.length] from by
  rw [hz.out]
  exact congrArg (fun x => [Value.int .u8 x]) HL.out)
 refine Ht (.one 10 3 (.one 0 0 (.one 1 0 (.one 2 0 (.one 3 3 (.one 5 0 (.one 6 0 (.one 8 0 (.one 9 0 (.two 4 2 (.one 7 2 (.one 11 2 (.one 12 2 (.one 13 2 (.one 14 2 .nil))))) 7 2 (.one 4 2 (.one 11 2 (.one 12 2 (.one 13 2 (.one 14 2 .nil))))))))))))))) (by kernel_rfl) (by kernel_rfl) ?_
 replace Ga := Ga.drew
 refine Jj rfl rfl ?_; go_wp2_with fail
 refine Pc rfl rfl (by kernel_rfl) ?_; go_wp2_with fail
 refine Kl rfl rfl ?_; go_wp2_with (refine Gj 21 rfl (by rfl) uz9 rfl (Gy (Ga.get 1 rfl) Kf) ?_)
 refine Kl rfl rfl ?_; go_wp2_with (fail)
 refine pm_pv rfl (pureV_convert rfl (by rfl) uz3 uz5) ?_; go_wp2_with fail
 refine Pc rfl rfl (by kernel_rfl) ?_; go_wp2_with fail
 refine Kl rfl rfl ?_; go_wp2_with (refine Gj 26 rfl (by rfl) uz9 rfl (Gy (Ga.get 1 rfl) Kf) ?_)
 refine Pc rfl rfl (by kernel_rfl) ?_; go_wp2_with fail
 refine Kl rfl rfl ?_; go_wp2_with (refine K7 (d := some 29) rfl rfl rfl (by rfl) uz32 GF (MG (Ga.get 1 rfl)) (Dig.size _) (by decide) ?_; intro hs29)
 refine JF (ki := 2) (kj := 2) rfl rfl ?_ ?_
 ·go_wp2_with (refine Gq 24 rfl [_] (Kj (Gw rfl)) rfl uz22 GF rfl (by (simp [Value.cells]; done)) (by decide) (by decide) ?_; (try clear Gb); intro g24 W24 Gb; replace Ga := Ga.tr1 Gb; simp only [List.flatMap_cons, List.flatMap_nil, List.append_nil, Value.cells, List.toList_toArray] at Ga); refine ⟨fun _ => (Gb.below), ?_⟩
  refine G6 rfl ?_; go_wp2_with (refine L_convSB (d := some 27) rfl rfl rfl (Gw rfl) uz22 uz9 uz5 (by (omega)) ?_; (try clear Gb); intro g27 cap27 ob27 W27 Gb hsb27; replace Ga := Ga.trans Gb; simp only [Gc, Gd] at Ga); refine Gi Gb ?_
  refine G6 rfl ?_; go_wp2_with (refine Gq 31 rfl [_, _, _, _] (bs_4 (Gw rfl) (Gw rfl) (Gw rfl) (Gw rfl)) rfl uz162 K6 rfl (by (simp [Value.cells]; done)) (by decide) (by decide) ?_; (try clear Gb); intro g31 W31 Gb; replace Ga := Ga.tr1 Gb; simp only [List.flatMap_cons, List.flatMap_nil, List.append_nil, Value.cells, List.toList_toArray] at Ga); refine Gi Gb ?_
  refine G6 rfl ?_; go_wp2_with ((go_at_call 62; (try clear Gb); (refine (concat4_any [UInt8.ofNat s.length] s k.l (Mp 4 t) _ _ _ _ _ _ _ _ _ _ _ _ _ _ _ (Ga.sl 0 rfl) (by rw [← HU.out]; exact Ga.sl 2 rfl) (hsb27 _ (Ga.at_ 1 rfl)) (ntKey_sl (Ga.get 4 rfl)) (Ga.sl 3 rfl) (by omega)).mono ?_); rintro e Wc ⟨Oc, oc, rfl, Gb⟩; replace Ga := Ga.trans Gb; simp only [Gc, Gd] at Ga)); refine Gi Gb ?_
  refine G6 rfl ?_; go_wp2_with fail; refine Gh ?_
  refine G6 rfl ?_; go_wp2_with fail; refine Gh ?_
  refine H5 ?_
  go_wp2_with fail
  go_ret2
  rw [HBl.out, show s.length + 37 = 1 + s.length + 32 + 4 by omega, HB.out]
  exact ⟨Oc, oc, rfl, Ga.pick [0] (by decide)⟩
 ·go_wp2_with (refine L_convSB (d := some 27) rfl rfl rfl (Gw rfl) uz22 uz9 uz5 (by (omega)) ?_; (try clear Gb); intro g27 cap27 ob27 W27 Gb hsb27; replace Ga := Ga.trans Gb; simp only [Gc, Gd] at Ga); refine ⟨fun _ => (Gb.below), ?_⟩
  refine G6 rfl ?_; go_wp2_with (refine Gq 24 rfl [_] (Kj (Gw rfl)) rfl uz22 GF rfl (by (simp [Value.cells]; done)) (by decide) (by decide) ?_; (try clear Gb); intro g24 W24 Gb; replace Ga := Ga.tr1 Gb; simp only [List.flatMap_cons, List.flatMap_nil, List.append_nil, Value.cells, List.toList_toArray] at Ga); refine Gi Gb ?_
  refine G6 rfl ?_; go_wp2_with (refine Gq 31 rfl [_, _, _, _] (bs_4 (Gw rfl) (Gw rfl) (Gw rfl) (Gw rfl)) rfl uz162 K6 rfl (by (simp [Value.cells]; done)) (by decide) (by decide) ?_; (try clear Gb); intro g31 W31 Gb; replace Ga := Ga.tr1 Gb; simp only [List.flatMap_cons, List.flatMap_nil, List.append_nil, Value.cells, List.toList_toArray] at Ga); refine Gi Gb ?_
  refine G6 rfl ?_; go_wp2_with ((go_at_call 62; (try clear Gb); (refine (concat4_any [UInt8.ofNat s.length] s k.l (Mp 4 t) _ _ _ _ _ _ _ _ _ _ _ _ _ _ _ (Ga.sl 0 rfl) (by rw [← HU.out]; exact Ga.sl 1 rfl) (hsb27 _ (Ga.at_ 2 rfl)) (ntKey_sl (Ga.get 4 rfl)) (Ga.sl 3 rfl) (by omega)).mono ?_); rintro e Wc ⟨Oc, oc, rfl, Gb⟩; replace Ga := Ga.trans Gb; simp only [Gc, Gd] at Ga)); refine Gi Gb ?_
  refine G6 rfl ?_; go_wp2_with fail; refine Gh ?_
  refine G6 rfl ?_; go_wp2_with fail; refine Gh ?_
  refine H5 ?_
  go_wp2_with fail
  go_ret2
  rw [HBl.out, show s.length + 37 = 1 + s.length + 32 + 4 by omega, HB.out]
  exact ⟨Oc, oc, rfl, Ga.pick [0] (by decide)⟩
theorem nwrite_no (n : NoteN) (w : World) (h : JN n = false) (hn1 : -9223372036854775808 ≤ n.turn) (hn2 : n.turn ≤ 9223372036854775807) :
  Calls Tryz.prog 81 #[.agg (Ha n.name n.key n.turn)] w fun e w' => ∃ r, r ≠ 0 ∧ e = .returned (.tuple #[.slice none 0 0, JL r]) ∧ St w w' [] := by
 have Ga := St.refl w
 obtain ⟨s, k, m⟩ := n
 simp only [JN] at h hn1 hn2
 cases hN : JM s with
 | false =>
  have HN := Gg (fun w => by have := JW s w; rw [hN] at this; exact this)
  clear h hN
  go_enter Tryz.func81, Tryz.ntmps81
  go_upto_region 1 with (go_big_may; (refine Gm 1 rfl (Gw rfl) ?_; (try clear Gb); intro g1 W1 Gb; replace Ga := Ga.tr1 Gb))
  go_upto_region 2 with (go_big_may; first | (go_at_call 34; (try clear Gb); refine (HN.out _).mono ?_; rintro e Wk2 ⟨rfl, Gb⟩; replace Ga := Ga.keep Gb) | (refine Gj 7 rfl (by rfl) uz9 rfl (Gy (Ga.get 0 rfl) Kf) ?_))
  go_wp2_with (fail)
  go_ret2
  exact ⟨1, by decide, rfl, Ga.forget⟩
 | true =>
  rw [hN, Bool.true_and] at h
  have h1 := of_decide_eq_false h
  have HN := Gg (fun w => by have := JW s w; rw [hN] at this; exact this)
  have HP := Gg (fun w => oput_no m 4 w hn1 hn2 (by decide) (by decide) (by
   unfold putNo
   by_cases h0 : m < 0
   ·exact .inr (.inr (.inl h0))
   ·refine .inr (.inr (.inr ⟨by decide, ?_⟩))
    show 0 < m / 4294967296
    omega))
  clear h hN h1 hn1 hn2
  go_enter Tryz.func81, Tryz.ntmps81
  go_upto_region 1 with (go_big_may; (refine Gm 1 rfl (Gw rfl) ?_; (try clear Gb); intro g1 W1 Gb; replace Ga := Ga.tr1 Gb))
  go_upto_region 3 with (go_big_may; first | (go_at_call 34; (try clear Gb); refine (HN.out _).mono ?_; rintro e Wk3 ⟨rfl, Gb⟩; replace Ga := Ga.keep Gb) | (refine Gj 7 rfl (by rfl) uz9 rfl (Gy (Ga.get 0 rfl) Kf) ?_))
  go_upto_region 4 with (go_big_may; first | (go_at_call 60; refine (HP.out _).mono ?_; unfold JL; rintro e Wp ⟨rfl, Gb⟩; replace Ga := Ga.keep Gb; clear Gb) | (refine Gj 13 rfl (by rfl) uz3 rfl (Gy (Ga.get 0 rfl) KN) ?_))
  go_upto_region 5 with (go_big_may; fail)
  go_wp2_with (fail)
  go_ret2
  exact ⟨2, by decide, rfl, Ga.forget⟩
theorem leafOf_any (n : NoteN) (w : World) (hT : Tb w) (h : JN n = true) :
  Calls Tryz.prog 36 #[.agg (Ha n.name n.key n.turn)] w fun e w' => e = .returned (.tuple #[(Jm n).v, .nilIface]) ∧ St w w' [] := by
 have Ga := St.refl w
 have HT := Gg hT
 have HW := Gg (fun w => nwrite_any n w h)
 have hl : (KZ n).length ≤ 67 := by
  have h1 := h
  unfold JN at h1
  rw [Bool.and_eq_true] at h1
  have := J0 h1.1
  rw [Nh]
  omega
 have HD := Gg (show Jm n = leafBN (KZ n) from rfl)
 obtain ⟨s, k, m⟩ := n
 generalize Jm ⟨s, k, m⟩ = df at *
 generalize KZ ⟨s, k, m⟩ = bs at *
 simp only at HW
 clear hT h
 go_enter Tryz.func36, Tryz.ntmps36
 go_upto_region 1 with (go_big_may; first | (refine Gm 1 rfl (Gw rfl) ?_; (try clear Gb); intro g1 W1 Gb; replace Ga := Ga.tr1 Gb) | (refine Gk 2 rfl Gv ?_; (try clear Gb); intro g2 W2 Gb; replace Ga := Ga.tr1 Gb))
 go_upto_region 2 with (go_big_may; first | (go_at_call 81; (try clear Gb); refine (HW.out _).mono ?_; rintro e Wp ⟨Ow, cw, rfl, Gb⟩; replace Ga := Ga.trans Gb; simp only [Gc, Gd] at Ga) | (refine Gl 7 rfl (by rfl) uz34 rfl GD (Ga.get 1 rfl) (GN _ _ _) ?_))
 go_upto_region 4 with (go_big_may; fail)
 go_wp2_with (first | (go_at_call 82; (try clear Gb); refine (tleaf_any bs _ _ _ _ (HT.out.of Ga) (Ga.sl 0 rfl) (by omega)).mono ?_; rintro e Wk4 ⟨rfl, Gb⟩; replace Ga := Ga.keep Gb) | ((refine Gr 2 16 Ga rfl (by rfl) (Gw rfl) (Dig.one _) Gv (by rfl) 1 rfl (by rfl) ?_; clear Ga; intro WS2 Ga; simp only [Ge, Gf] at Ga)))
 refine He rfl rfl rfl rfl (Ga.get 1 rfl) uz32 rfl Gv (by rfl) ?_
 rw [HD.out]
 exact ⟨rfl, Ga.forget⟩
theorem leafOf_no (n : NoteN) (w : World) (h : JN n = false) (hn1 : -9223372036854775808 ≤ n.turn) (hn2 : n.turn ≤ 9223372036854775807) :
  Calls Tryz.prog 36 #[.agg (Ha n.name n.key n.turn)] w fun e w' => ∃ r, r ≠ 0 ∧ e = .returned (.tuple #[GM.v, JL r]) ∧ St w w' [] := by
 have Ga := St.refl w
 have HW := Gg (fun w => nwrite_no n w h hn1 hn2)
 obtain ⟨s, k, m⟩ := n
 simp only at HW
 clear h hn1 hn2
 go_enter Tryz.func36, Tryz.ntmps36
 go_upto_region 1 with (go_big_may; first | (refine Gm 1 rfl (Gw rfl) ?_; (try clear Gb); intro g1 W1 Gb; replace Ga := Ga.tr1 Gb) | (refine Gk 2 rfl Gv ?_; (try clear Gb); intro g2 W2 Gb; replace Ga := Ga.tr1 Gb))
 go_upto_region 2 with (go_big_may; first | (go_at_call 81; (try clear Gb); refine (HW.out _).mono ?_; unfold JL; rintro e Wp ⟨r, hr, rfl, Gb⟩; replace Ga := Ga.keep Gb) | (refine Gl 7 rfl (by rfl) uz34 rfl GD (Ga.get 1 rfl) (GN _ _ _) ?_))
 go_upto_region 3 with (go_big_may; fail)
 go_wp2_with (first | (refine KC (d := some 13) rfl rfl rfl uz32 GF Gv ?_) | ((refine Gr 2 13 Ga rfl (by rfl) (Gw rfl) (Dig.one _) Gv (by rfl) 0 rfl (by rfl) ?_; clear Ga; intro WS2 Ga; simp only [Ge, Gf] at Ga)))
 refine He rfl rfl rfl rfl (Ga.get 0 rfl) uz32 rfl Gv (by rfl) ?_
 exact ⟨r, hr, rfl, Ga.forget⟩
end
section
open Go.RowKit
theorem bs_at (l : List UInt8) (j : Nat) (h : j < l.length) : (GZ l)[j]? = some (l.getD j 0) := by
 have h' : j < (GZ l).size := by rw [Hf]; exact h
 rw [List.getD_eq_getElem?_getD, List.getElem?_eq_getElem h]
 simp [h']
 rfl
theorem dig_slr {W : World} {g t : Nat} {fr : Nat × Nat} {d : Dig} {k : Nat} (hk : k ≤ 32) (h : W.heap[g]? = some (.cells d.arr t fr)) : SlR W (some ⟨g, 0, none⟩) k 32 1 (GK (d.l.take k)) :=
 ⟨by rw [G7, List.length_take, d.h]; omega, hk, by decide, fun _ => ⟨g, 0, rfl, Jk h (fun j v hv => by
  rw [← Array.getElem?_toList, Dig.toList, Nat.zero_add]
  have hj : j < k := by have := (List.getElem?_eq_some_iff.1 hv).1; rw [G7, List.length_take, d.h] at this; omega
  rw [getElem?_bytesL] at hv ⊢
  rwa [List.getElem?_take, if_pos hj] at hv)⟩⟩
theorem dig_sl {W : World} {g t : Nat} {fr : Nat × Nat} {d : Dig} (h : W.heap[g]? = some (.cells d.arr t fr)) : SlR W (some ⟨g, 0, none⟩) 32 32 1 d.arr.toList :=
 ⟨by simp [Dig.size], Nat.le_refl _, by decide, fun _ => ⟨g, 0, rfl, Jk h (fun j v hv => by
  rw [← Array.getElem?_toList, Nat.zero_add]
  exact hv)⟩⟩
theorem isNm_bad {l : List UInt8} {i : Nat} (h : i < l.length) (hb : okB (l.getD i 0) = false) : JM l = false := by
 have : l.all okB = false := by
  rw [List.all_eq_false]
  refine ⟨l[i], List.getElem_mem h, ?_⟩
  rw [List.getD_eq_getElem?_getD, List.getElem?_eq_getElem h, Option.getD_some] at hb
  simp [hb]
 unfold JM
 rw [this, Bool.and_false]
theorem all_step {l : List UInt8} {i : Nat} (h : i < l.length) (ha : (l.take i).all okB = true) (hb : okB (l.getD i 0) = true) : (l.take (i + 1)).all okB = true := by
 rw [List.getD_eq_getElem?_getD, List.getElem?_eq_getElem h, Option.getD_some] at hb
 rw [List.take_succ_eq_append_getElem h, List.all_append, ha]
 simp [hb]
theorem Kx (l : List UInt8) (w : World) (hn : l.length ≤ 9223372036854775807) : Calls Tryz.prog 31 #[.string (GZ l)] w fun e w' => e = .returned (.bool (JM l)) ∧ St w w' [] := by
 have Ga := St.refl w
 obtain ⟨n, hn'⟩ : ∃ n, n = l.length := ⟨_, rfl⟩
 have HL := Gg hn'
 have hz : (GZ l).size = n := by rw [Hf, hn']
 rw [← hn'] at hn
 clear hn'
 go_enter Tryz.func31, Tryz.ntmps31
 go_wp2_with fail
 go_loopg [3, 4] n (fun gk s3 s4 wr => ∃ i : Nat, Hid (i + gk = n) ∧ Hid ((l.take i).all okB = true) ∧ s3 = .int .i64 (i : Int) ∧ St w wr [])
 case atStart => exact ⟨0, Gg (by omega), Gg (by simp), rfl, Ga⟩
 case round =>
  clear Ga
  obtain ⟨i, HI, HA, rfl, Ga⟩ := hrel
  have hi := HI.out
  by_cases hin : i < n
  ·have hil : i < l.length := by rw [← HL.out]; exact hin
   have HC := Gg (bs_at l i hil)
   have HB := Gg (fun h => isNm_bad (l := l) (i := i) hil h)
   have HS := Gg (fun h => all_step (l := l) (i := i) hil HA.out h)
   have HO := Gg (show okB (l.getD i 0) = decide (97 ≤ (l.getD i 0).toNat ∧ (l.getD i 0).toNat ≤ 122 ∨ 48 ≤ (l.getD i 0).toNat ∧ (l.getD i 0).toNat ≤ 57 ∨ (l.getD i 0).toNat = 45) from rfl)
   generalize l.getD i 0 = b at *
   generalize okB b = ob at *
   obtain ⟨x, hx⟩ : ∃ x, x = b.toNat := ⟨_, rfl⟩
   rw [← hx] at HO
   have HX := Gg hx
   clear hil hi hx
   by_cases hok : 97 ≤ x ∧ x ≤ 122 ∨ 48 ≤ x ∧ x ≤ 57 ∨ x = 45
   ·have HS := Gg (HS.out (by rw [HO.out]; exact decide_eq_true hok))
    clear HO HB
    have hok' : (97 ≤ x ∧ x ≤ 122) ∨ (48 ≤ x ∧ x ≤ 57) ∨ x = 45 := by omega
    clear hok
    rcases hok' with ⟨h1, h2⟩ | ⟨h1, h2⟩ | h1
    ·have z1 : ¬ (x : Int) < 97 := by omega
     have z2 : (x : Int) ≤ 122 := by omega
     clear h1 h2
     go_wp2_with (refine MI (d := some 13) rfl rfl rfl uz9 rfl (by rfl) i rfl HC.out ?_; rw [← HX.out])
     go_roundg (gk - 1)
     case measure => have hi := HI.out; omega
     case rel => exact ⟨i + 1, Gg (by have := HI.out; omega), HS, by go_num, Ga⟩
    ·have z1 : (x : Int) < 97 := by omega
     have z2 : ¬ (x : Int) < 48 := by omega
     have z3 : (x : Int) ≤ 57 := by omega
     clear h1 h2
     go_wp2_with (refine MI (d := some 13) rfl rfl rfl uz9 rfl (by rfl) i rfl HC.out ?_; rw [← HX.out])
     go_roundg (gk - 1)
     case measure => have hi := HI.out; omega
     case rel => exact ⟨i + 1, Gg (by have := HI.out; omega), HS, by go_num, Ga⟩
    ·subst h1
     go_wp2_with (refine MI (d := some 13) rfl rfl rfl uz9 rfl (by rfl) i rfl HC.out ?_; rw [← HX.out])
     go_roundg (gk - 1)
     case measure => have hi := HI.out; omega
     case rel => exact ⟨i + 1, Gg (by have := HI.out; omega), HS, by go_num, Ga⟩
   ·have HB := Gg (HB.out (by rw [HO.out]; exact decide_eq_false hok))
    clear HO HS
    have hok' : (122 < x) ∨ (57 < x ∧ x < 97) ∨ (x < 48 ∧ x ≠ 45) := by omega
    clear hok
    rcases hok' with h1 | ⟨h1, h2⟩ | ⟨h1, h2⟩
    ·have z1 : ¬ (x : Int) < 97 := by omega
     have z2 : ¬ (x : Int) ≤ 122 := by omega
     have z3 : ¬ (x : Int) < 48 := by omega
     have z4 : ¬ (x : Int) ≤ 57 := by omega
     have z5 : ((x : Int) == 45) = false := by simp; omega
     clear h1
     go_wp2_with (refine MI (d := some 13) rfl rfl rfl uz9 rfl (by rfl) i rfl HC.out ?_; rw [← HX.out])
     go_ret
     exact ⟨by rw [HB.out]; rfl, Ga⟩
    ·have z1 : (x : Int) < 97 := by omega
     have z3 : ¬ (x : Int) < 48 := by omega
     have z4 : ¬ (x : Int) ≤ 57 := by omega
     have z5 : ((x : Int) == 45) = false := by simp; omega
     clear h1 h2
     go_wp2_with (refine MI (d := some 13) rfl rfl rfl uz9 rfl (by rfl) i rfl HC.out ?_; rw [← HX.out])
     go_ret
     exact ⟨by rw [HB.out]; rfl, Ga⟩
    ·have z1 : (x : Int) < 97 := by omega
     have z3 : (x : Int) < 48 := by omega
     have z5 : ((x : Int) == 45) = false := by simp; omega
     clear h1 h2
     go_wp2_with (refine MI (d := some 13) rfl rfl rfl uz9 rfl (by rfl) i rfl HC.out ?_; rw [← HX.out])
     go_ret
     exact ⟨by rw [HB.out]; rfl, Ga⟩
  ·obtain rfl : i = n := by omega
   have HE := Gg (show JM l = decide (0 < i ∧ i ≤ 30) by
    have := HA.out
    rw [HL.out, List.take_length] at this
    unfold JM
    rw [this, Bool.and_true, ← HL.out])
   clear hi HI HA hin
   by_cases h0 : i = 0
   ·subst h0
    go_wp2_with (fail)
    go_ret
    exact ⟨by rw [HE.out]; rfl, Ga⟩
   ·have z1 : (0 : Int) < (i : Int) := by omega
    by_cases h30 : i ≤ 30
    ·have z2 : (i : Int) ≤ 30 := by omega
     have HD := Gg (show decide (0 < i ∧ i ≤ 30) = true from decide_eq_true ⟨by omega, h30⟩)
     clear h30 h0
     go_wp2_with (fail)
     go_ret
     exact ⟨by rw [HE.out, HD.out]; rfl, Ga⟩
    ·have z2 : ¬ (i : Int) ≤ 30 := by omega
     have HD := Gg (show decide (0 < i ∧ i ≤ 30) = false from decide_eq_false (fun h => h30 h.2))
     clear h30 h0
     go_wp2_with (fail)
     go_ret
     exact ⟨by rw [HE.out, HD.out]; rfl, Ga⟩
theorem MA (l : List UInt8) (w : World) (hn : l.length ≤ 140737488354000) : Calls Tryz.prog 33 #[.string (GZ l)] w fun e w' => e = .returned (.int .i64 ((Jf l : Nat) : Int)) ∧ St w w' [] := by
 have Ga := St.refl w
 have hz := Hf l
 have HB := Gg (show [Value.int .u8 12] ++ GK l = GK (List.cons 12 l) from rfl)
 have HR := Gg (fun (A : Option Addr) (c : Nat) (w' : World) (h : SlR w' A (1 + l.length) c 1 (GK (List.cons 12 l))) => Ng (List.cons 12 l) A _ c w' h (by omega))
 have HN := Gg (fun (A : Option Addr) (c : Nat) (w' : World) (h : SlR w' A 4 c 1 (GK ((sha (List.cons 12 l)).l.take 4))) => rnum_any _ A 4 c w' h (by decide) (by decide))
 have HE := Gg (show natE ((sha (List.cons 12 l)).l.take 4) = Jf l from rfl)
 rw [HE.out] at HN
 generalize Jf l = ix at *
 generalize sha (List.cons 12 l) = dd at *
 generalize List.cons 12 l = all at *
 clear HE
 go_enter Tryz.func33, Tryz.ntmps33
 go_upto_region 1 with (go_big_may; fail)
 go_upto_region 2 with (go_big_may; first | (go_at_call 76; (try clear Gb); refine (HR.out _ _ _ (by rw [← HB.out]; exact Ga.sl 1 rfl)).mono ?_; rintro e Wk1 ⟨rfl, Gb⟩; replace Ga := Ga.keep Gb) | (refine Gq 6 rfl [_] (Kj GT) rfl uz22 GF rfl (by (simp [Value.cells]; done)) (by decide) (by decide) ?_; (try clear Gb); intro g6 W6 Gb; replace Ga := Ga.tr1 Gb; simp only [List.flatMap_cons, List.flatMap_nil, List.append_nil, Value.cells, List.toList_toArray] at Ga) | (refine L_convSB (d := some 8) rfl rfl rfl (Gw rfl) uz22 uz9 uz5 (by (omega)) ?_; (try clear Gb); intro g8 cap8 ob8 W8 Gb hsb8; replace Ga := Ga.trans Gb; simp only [Gc, Gd] at Ga) | (refine GY (d := some 9) rfl rfl Ga rfl (by rfl) (by rfl) uz22 GF rfl (by decide) (by decide) 1 rfl (by rfl) (hsb8 _ (Ga.at_ 0 rfl)) (GX) (by omega) ?_; clear Ga; intro A9 c9 W9 Ga; simp only [Ge, Gf, List.nil_append, Nat.zero_add] at Ga) | (refine Gk 3 rfl Gv ?_; (try clear Gb); intro g3 W3 Gb; replace Ga := Ga.tr1 Gb) | ((refine Gr 3 10 Ga rfl (by rfl) (Gw rfl) (Dig.one _) Gv (Dig.size _) 0 rfl (by rfl) ?_; clear Ga; intro WS6 Ga; simp only [Ge, Gf] at Ga)))
 clear Gb
 go_upto_region 3 with (go_big_may; (go_at_call 77; (try clear Gb); refine (HN.out _ _ _ (dig_slr (by decide) (Ga.get 0 rfl))).mono ?_; rintro e Wk2 ⟨rfl, Gb⟩; replace Ga := Ga.keep Gb))
 go_wp2_with (fail)
 go_ret
 exact ⟨rfl, Ga.forget⟩
theorem KO (w : World) : Calls Tryz.prog 52 #[] w fun e w' => e = .returned GM.v ∧ St w w' [] := by
 have Ga := St.refl w
 go_enter Tryz.func52, Tryz.ntmps52
 go_wp2_with (first | (refine Gk 0 rfl Gv ?_; (try clear Gb); intro g0 W0 Gb; replace Ga := Ga.tr1 Gb) | (refine KC (d := some 1) rfl rfl rfl uz32 GF Gv ?_) | ((refine Gr 0 1 Ga rfl (by rfl) (Gw rfl) (Dig.one _) Gv (by rfl) 0 rfl (by rfl) ?_; clear Ga; intro WS1 Ga; simp only [Ge, Gf] at Ga)))
 refine Hw rfl rfl rfl (Ga.get 0 rfl) uz32 rfl Gv (by rfl) ?_
 exact ⟨rfl, Ga.forget⟩
theorem rmapnode_any (l r : Dig) (w : World) : Calls Tryz.prog 88 #[l.v, r.v] w fun e w' => e = .returned (Nf l r).v ∧ St w w' [] := by
 have Ga := St.refl w
 have HO := Gg (fun (A : Option Addr) (c : Nat) (w' : World) (h : SlR w' A 2 c 32 (GP [l, r])) => rof_any 10 [l, r] A 2 c w' h (by decide))
 have HD := Gg (show GP [l, r] = l.arr.toList ++ r.arr.toList by simp [GP, Dig.toList])
 have HZ := Gg (fun w => KO w)
 have HM := Gg (show Nf l r = if l = GM ∧ r = GM then GM else ofN 10 [l, r] from rfl)
 obtain ⟨q, hq⟩ : ∃ q, q = Nf l r := ⟨_, rfl⟩
 rw [← hq]
 have HQ := Gg hq
 generalize ofN 10 [l, r] = on at *
 generalize GP [l, r] = dl at *
 clear hq
 by_cases hl : l = GM
 ·have HL := Gg (show decide (l = GM) = true from decide_eq_true hl)
  by_cases hr : r = GM
  ·have HR := Gg (show decide (r = GM) = true from decide_eq_true hr)
   have hq2 : q = GM := by rw [HQ.out, HM.out, if_pos ⟨hl, hr⟩]
   clear hl hr HO
   generalize GM = z0 at *
   go_enter Tryz.func88, Tryz.ntmps88
   go_upto_region 1 with (go_big_may; first | (refine Gm 2 rfl (Gw rfl) ?_; (try clear Gb); intro g2 W2 Gb; replace Ga := Ga.tr1 Gb) | (refine Gm 3 rfl (Gw rfl) ?_; (try clear Gb); intro g3 W3 Gb; replace Ga := Ga.tr1 Gb) | (refine Gk 4 rfl Gv ?_; (try clear Gb); intro g4 W4 Gb; replace Ga := Ga.tr1 Gb))
   refine GO [(0, 0), (1, 2), (2, 2), (3, 2), (4, 0), (5, 2), (6, 2), (7, 2)] (by kernel_rfl) (by kernel_rfl) ?_
   replace Ga := Ga.drew
   refine GG rfl rfl ?_; go_wp2_with ((refine Gl 5 rfl (by rfl) uz32 rfl Gv (Ga.get 2 rfl) (Dig.size _) ?_))
   refine GA rfl ?_; go_wp2_with ((go_at_call 52; (try clear Gb); refine (HZ.out _).mono ?_; rintro e Wk3 ⟨rfl, Gb⟩; replace Ga := Ga.keep Gb)); refine Gi Gb ?_
   refine GA rfl ?_; go_wp2_with (refine MJ (d := some 7) rfl rfl rfl uz32 uz5 GF JG (Gw rfl) (Gw rfl) ?_; (try rw [HL.out])); refine Gh ?_
   refine GA rfl ?_; go_wp2_with fail; refine Gh ?_
   refine GG rfl rfl ?_; go_wp2_with ((refine Gl 9 rfl (by rfl) uz32 rfl Gv (Ga.get 1 rfl) (Dig.size _) ?_))
   refine GA rfl ?_; go_wp2_with ((go_at_call 52; (try clear Gb); refine (HZ.out _).mono ?_; rintro e Wk3 ⟨rfl, Gb⟩; replace Ga := Ga.keep Gb)); refine Gi Gb ?_
   refine GA rfl ?_; go_wp2_with (refine MJ (d := some 11) rfl rfl rfl uz32 uz5 GF JG (Gw rfl) (Gw rfl) ?_; (try rw [HR.out])); refine Gh ?_
   refine GA rfl ?_; go_wp2_with fail; refine Gh ?_
   refine G5 ?_
   go_wp2_with (first | (go_at_call 52; (try clear Gb); refine (HZ.out _).mono ?_; rintro e Wk4 ⟨rfl, Gb⟩; replace Ga := Ga.keep Gb) | ((refine Gr 4 13 Ga rfl (by rfl) (Gw rfl) (Dig.one _) Gv (Dig.size _) 0 rfl (by rfl) ?_; clear Ga; intro WS1 Ga; simp only [Ge, Gf] at Ga)))
   refine Hw rfl rfl rfl (Ga.get 0 rfl) uz32 rfl Gv (Dig.size _) ?_
   exact ⟨by rw [hq2], Ga.forget⟩
  ·have HR := Gg (show decide (r = GM) = false from decide_eq_false hr)
   have hq2 : q = on := by rw [HQ.out, HM.out, if_neg (fun h => hr h.2)]
   clear hl hr
   generalize GM = z0 at *
   go_enter Tryz.func88, Tryz.ntmps88
   go_upto_region 1 with (go_big_may; first | (refine Gm 2 rfl (Gw rfl) ?_; (try clear Gb); intro g2 W2 Gb; replace Ga := Ga.tr1 Gb) | (refine Gm 3 rfl (Gw rfl) ?_; (try clear Gb); intro g3 W3 Gb; replace Ga := Ga.tr1 Gb) | (refine Gk 4 rfl Gv ?_; (try clear Gb); intro g4 W4 Gb; replace Ga := Ga.tr1 Gb))
   refine GO [(0, 0), (1, 2), (2, 2), (3, 2), (4, 0), (5, 2), (6, 2), (7, 2)] (by kernel_rfl) (by kernel_rfl) ?_
   replace Ga := Ga.drew
   refine GG rfl rfl ?_; go_wp2_with ((refine Gl 5 rfl (by rfl) uz32 rfl Gv (Ga.get 2 rfl) (Dig.size _) ?_))
   refine GA rfl ?_; go_wp2_with ((go_at_call 52; (try clear Gb); refine (HZ.out _).mono ?_; rintro e Wk5 ⟨rfl, Gb⟩; replace Ga := Ga.keep Gb)); refine Gi Gb ?_
   refine GA rfl ?_; go_wp2_with (refine MJ (d := some 7) rfl rfl rfl uz32 uz5 GF JG (Gw rfl) (Gw rfl) ?_; (try rw [HL.out])); refine Gh ?_
   refine GA rfl ?_; go_wp2_with fail; refine Gh ?_
   refine GG rfl rfl ?_; go_wp2_with ((refine Gl 9 rfl (by rfl) uz32 rfl Gv (Ga.get 1 rfl) (Dig.size _) ?_))
   refine GA rfl ?_; go_wp2_with ((go_at_call 52; (try clear Gb); refine (HZ.out _).mono ?_; rintro e Wk5 ⟨rfl, Gb⟩; replace Ga := Ga.keep Gb)); refine Gi Gb ?_
   refine GA rfl ?_; go_wp2_with (refine MJ (d := some 11) rfl rfl rfl uz32 uz5 GF JG (Gw rfl) (Gw rfl) ?_; (try rw [HR.out])); refine Gh ?_
   refine GA rfl ?_; go_wp2_with fail; refine Gh ?_
   refine G5 ?_
   go_wp2_with (first | (go_at_call 122; (try clear Gb); refine (HO.out _ _ _ (by rw [HD.out]; exact Ga.sl 0 rfl)).mono ?_; rintro e Wk6 ⟨rfl, Gb⟩; replace Ga := Ga.keep Gb) | (refine Gl 14 rfl (by rfl) uz32 rfl Gv (Ga.get 2 rfl) (Dig.size _) ?_) | (refine Gl 15 rfl (by rfl) uz32 rfl Gv (Ga.get 1 rfl) (Dig.size _) ?_) | (refine Gq 16 rfl [_, _] (bs_2 (Gw rfl) (Gw rfl)) rfl uz44 Gv rfl (by (simp [Value.cells, Dig.size]; done)) (by decide) (by decide) ?_; (try clear Gb); intro g16 W16 Gb; replace Ga := Ga.tr1 Gb; simp only [List.flatMap_cons, List.flatMap_nil, List.append_nil, Value.cells, List.toList_toArray] at Ga) | ((refine Gr 4 17 Ga rfl (by rfl) (Gw rfl) (Dig.one _) Gv (Dig.size _) 1 rfl (by rfl) ?_; clear Ga; intro WS4 Ga; simp only [Ge, Gf] at Ga)))
   refine Hw rfl rfl rfl (Ga.get 1 rfl) uz32 rfl Gv (Dig.size _) ?_
   exact ⟨by rw [hq2], Ga.forget⟩
 ·have HL := Gg (show decide (l = GM) = false from decide_eq_false hl)
  have hq2 : q = on := by rw [HQ.out, HM.out, if_neg (fun h => hl h.1)]
  clear hl
  generalize GM = z0 at *
  go_enter Tryz.func88, Tryz.ntmps88
  go_upto_region 1 with (go_big_may; first | (refine Gm 2 rfl (Gw rfl) ?_; (try clear Gb); intro g2 W2 Gb; replace Ga := Ga.tr1 Gb) | (refine Gm 3 rfl (Gw rfl) ?_; (try clear Gb); intro g3 W3 Gb; replace Ga := Ga.tr1 Gb) | (refine Gk 4 rfl Gv ?_; (try clear Gb); intro g4 W4 Gb; replace Ga := Ga.tr1 Gb))
  refine GO [(0, 0), (1, 2), (2, 2), (3, 2), (4, 0), (5, 2), (6, 2), (7, 2)] (by kernel_rfl) (by kernel_rfl) ?_
  replace Ga := Ga.drew
  refine GG rfl rfl ?_; go_wp2_with ((refine Gl 5 rfl (by rfl) uz32 rfl Gv (Ga.get 2 rfl) (Dig.size _) ?_))
  refine GA rfl ?_; go_wp2_with ((go_at_call 52; (try clear Gb); refine (HZ.out _).mono ?_; rintro e Wk7 ⟨rfl, Gb⟩; replace Ga := Ga.keep Gb)); refine Gi Gb ?_
  refine GA rfl ?_; go_wp2_with (refine MJ (d := some 7) rfl rfl rfl uz32 uz5 GF JG (Gw rfl) (Gw rfl) ?_; (try rw [HL.out])); refine Gh ?_
  refine GA rfl ?_; go_wp2_with fail; refine Gh ?_
  refine GG rfl rfl ?_; go_wp2_with (refine K0 (t := 9) rfl (by rfl) rfl ?_)
  refine GA rfl ?_; go_wp2_with (refine K0 (t := 10) rfl (by rfl) rfl ?_); refine Gh ?_
  refine GA rfl ?_; go_wp2_with (refine K0 (t := 11) rfl (by rfl) rfl ?_); refine Gh ?_
  refine GA rfl ?_; go_wp2_with fail; refine Gh ?_
  refine G5 ?_
  go_wp2_with (first | (go_at_call 122; (try clear Gb); refine (HO.out _ _ _ (by rw [HD.out]; exact Ga.sl 0 rfl)).mono ?_; rintro e Wk8 ⟨rfl, Gb⟩; replace Ga := Ga.keep Gb) | (refine Gl 14 rfl (by rfl) uz32 rfl Gv (Ga.get 2 rfl) (Dig.size _) ?_) | (refine Gl 15 rfl (by rfl) uz32 rfl Gv (Ga.get 1 rfl) (Dig.size _) ?_) | (refine Gq 16 rfl [_, _] (bs_2 (Gw rfl) (Gw rfl)) rfl uz44 Gv rfl (by (simp [Value.cells, Dig.size]; done)) (by decide) (by decide) ?_; (try clear Gb); intro g16 W16 Gb; replace Ga := Ga.tr1 Gb; simp only [List.flatMap_cons, List.flatMap_nil, List.append_nil, Value.cells, List.toList_toArray] at Ga) | ((refine Gr 4 17 Ga rfl (by rfl) (Gw rfl) (Dig.one _) Gv (Dig.size _) 1 rfl (by rfl) ?_; clear Ga; intro WS4 Ga; simp only [Ge, Gf] at Ga)))
  refine Hw rfl rfl rfl (Ga.get 1 rfl) uz32 rfl Gv (Dig.size _) ?_
  exact ⟨by rw [hq2], Ga.forget⟩
theorem rentryleaf_any (k : Nat) (v : Dig) (w : World) (hk : k < 4294967296) : Calls Tryz.prog 54 #[.agg (J7 (k : Int) v)] w fun e w' => e = .returned (K2 k v).v ∧ St w w' [] := by
 have Ga := St.refl w
 have HP := Gg (fun w => rput_any k 4 w (by decide) (by decide) (by omega))
 have HB := Gg (show [Value.int .u8 9] ++ GK (Mp 4 k) ++ v.arr.toList = GK (List.cons 9 (Mp 4 k ++ v.l)) by rw [show [Value.int .u8 9] = GK [9] from rfl, Dig.toList, ← Hj, ← Hj]; rfl)
 have HE := Gg (show K2 k v = sha (List.cons 9 (Mp 4 k ++ v.l)) from rfl)
 have HS := Gg (fun (A : Option Addr) (n c : Nat) (w' : World) (h : SlR w' A n c 1 (GK (List.cons 9 (Mp 4 k ++ v.l)))) (hn : n ≤ 100) => Ng _ A n c w' h (by omega))
 rw [← HE.out] at HS
 generalize K2 k v = el at *
 generalize List.cons 9 (Mp 4 k ++ v.l) = all at *
 generalize Mp 4 k = bk at *
 clear HE
 go_enter Tryz.func54, Tryz.ntmps54
 go_upto_region 1 with (go_big_may; first | (refine Gm 1 rfl (Gw rfl) ?_; (try clear Gb); intro g1 W1 Gb; replace Ga := Ga.tr1 Gb) | (refine Gk 2 rfl Gv ?_; (try clear Gb); intro g2 W2 Gb; replace Ga := Ga.tr1 Gb))
 go_upto_region 2 with (go_big_may; first | (go_at_call 93; (try clear Gb); refine (HP.out _).mono ?_; rintro e Wp ⟨Op, rfl, Gb⟩; replace Ga := Ga.trans Gb; simp only [Gc, Gd] at Ga) | (refine Gj 8 rfl (by rfl) uz3 rfl (Gy (Ga.get 1 rfl) MF) ?_))
 go_upto_region 3 with (go_big_may; first | (refine Gn 13 rfl (by rfl) uz32 rfl Gv (prArr_range (Ga.get 2 rfl)) (Dig.size _) ?_) | (refine Gk 5 rfl Gv ?_; (try clear Gb); intro g5 W5 Gb; replace Ga := Ga.tr1 Gb) | ((refine Gr 5 13 Ga rfl (by rfl) (Gw rfl) (Dig.one _) Gv (Dig.size _) 0 rfl (by rfl) ?_; clear Ga; intro WS3 Ga; simp only [Ge, Gf] at Ga)))
 clear Gb
 refine Ht (.one 1 3 (.two 0 2 (.two 2 1 (.one 3 2 (.one 4 1 (.one 5 2 (.one 6 1 .nil)))) 3 2 (.one 2 1 (.one 4 1 (.one 5 2 (.one 6 1 .nil))))) 3 2 (.one 0 2 (.one 2 1 (.one 4 1 (.one 5 2 (.one 6 1 .nil))))))) (by kernel_rfl) (by kernel_rfl) ?_
 replace Ga := Ga.drew
 refine Jj rfl rfl ?_; go_wp2_with fail
 refine JF (ki := 2) (kj := 2) rfl rfl ?_ ?_
 ·go_wp2_with (refine Gq 14 rfl [_] (Kj GT) rfl uz22 GF rfl (by (simp [Value.cells]; done)) (by decide) (by decide) ?_; (try clear Gb); intro g14 W14 Gb; replace Ga := Ga.tr1 Gb; simp only [List.flatMap_cons, List.flatMap_nil, List.append_nil, Value.cells, List.toList_toArray] at Ga); refine ⟨fun _ => (Gb.below), ?_⟩
  refine JF (ki := 1) (kj := 2) rfl rfl ?_ ?_
  ·go_wp2_with (refine GY (d := some 16) rfl rfl Ga rfl (by rfl) (by rfl) uz22 GF rfl (by decide) (by decide) 0 rfl (by rfl) (Ga.sl 2 rfl) (GX) (by omega) ?_; clear Ga; intro A16 c16 W16 Ga; simp only [Ge, Gf, List.nil_append, Nat.zero_add] at Ga); refine ⟨fun h => absurd h (by decide), ?_⟩
   refine G6 rfl ?_; go_wp2_with (refine Jx (d := some 17) rfl rfl rfl (by rfl) uz32 GF (Ga.get 1 rfl) (Dig.size _) (by decide) ?_; intro hs17); refine Gh ?_
   refine JA rfl ?_; go_wp2_with (refine GY (d := some 18) rfl rfl Ga rfl (by rfl) (by rfl) uz22 GF rfl (by decide) (by decide) 0 rfl (by rfl) (dig_sl (Ga.get 1 rfl)) (GX) (by omega) ?_; clear Ga; intro A18 c18 W18 Ga; simp only [Ge, Gf, List.nil_append, Nat.zero_add] at Ga)
   refine G6 rfl ?_; go_wp2_with ((go_at_call 76; (try clear Gb); refine (HS.out _ _ _ _ (by rw [← HB.out]; exact Ga.sl 0 rfl) (by decide)).mono ?_; rintro e Wk9 ⟨rfl, Gb⟩; replace Ga := Ga.keep Gb)); refine Gi Gb ?_
   refine JA rfl ?_; go_wp2_with ((refine Gr 2 19 Ga rfl (by rfl) (Gw rfl) (Dig.one _) Gv (Dig.size _) 3 rfl (by rfl) ?_; clear Ga; intro WS6 Ga; simp only [Ge, Gf] at Ga))
   refine H5 ?_
   go_wp2_with fail
   refine Hw rfl rfl rfl (Ga.get 3 rfl) uz32 rfl Gv (Dig.size _) ?_
   exact ⟨rfl, Ga.forget⟩
  ·go_wp2_with (refine Jx (d := some 17) rfl rfl rfl (by rfl) uz32 GF (Ga.get 1 rfl) (Dig.size _) (by decide) ?_; intro hs17); refine ⟨fun _ => (Below.refl _ _), ?_⟩
   refine JA rfl ?_; go_wp2_with (refine GY (d := some 16) rfl rfl Ga rfl (by rfl) (by rfl) uz22 GF rfl (by decide) (by decide) 0 rfl (by rfl) (Ga.sl 2 rfl) (GX) (by omega) ?_; clear Ga; intro A16 c16 W16 Ga; simp only [Ge, Gf, List.nil_append, Nat.zero_add] at Ga)
   refine JA rfl ?_; go_wp2_with (refine GY (d := some 18) rfl rfl Ga rfl (by rfl) (by rfl) uz22 GF rfl (by decide) (by decide) 0 rfl (by rfl) (dig_sl (Ga.get 1 rfl)) (GX) (by omega) ?_; clear Ga; intro A18 c18 W18 Ga; simp only [Ge, Gf, List.nil_append, Nat.zero_add] at Ga)
   refine G6 rfl ?_; go_wp2_with ((go_at_call 76; (try clear Gb); refine (HS.out _ _ _ _ (by rw [← HB.out]; exact Ga.sl 0 rfl) (by decide)).mono ?_; rintro e Wk9 ⟨rfl, Gb⟩; replace Ga := Ga.keep Gb)); refine Gi Gb ?_
   refine JA rfl ?_; go_wp2_with ((refine Gr 2 19 Ga rfl (by rfl) (Gw rfl) (Dig.one _) Gv (Dig.size _) 3 rfl (by rfl) ?_; clear Ga; intro WS6 Ga; simp only [Ge, Gf] at Ga))
   refine H5 ?_
   go_wp2_with fail
   refine Hw rfl rfl rfl (Ga.get 3 rfl) uz32 rfl Gv (Dig.size _) ?_
   exact ⟨rfl, Ga.forget⟩
 ·go_wp2_with (refine Jx (d := some 17) rfl rfl rfl (by rfl) uz32 GF (Ga.get 0 rfl) (Dig.size _) (by decide) ?_; intro hs17); refine ⟨fun _ => (Below.refl _ _), ?_⟩
  refine G6 rfl ?_; go_wp2_with (refine Gq 14 rfl [_] (Kj GT) rfl uz22 GF rfl (by (simp [Value.cells]; done)) (by decide) (by decide) ?_; (try clear Gb); intro g14 W14 Gb; replace Ga := Ga.tr1 Gb; simp only [List.flatMap_cons, List.flatMap_nil, List.append_nil, Value.cells, List.toList_toArray] at Ga); refine Gi Gb ?_
  refine JA rfl ?_; go_wp2_with (refine GY (d := some 16) rfl rfl Ga rfl (by rfl) (by rfl) uz22 GF rfl (by decide) (by decide) 0 rfl (by rfl) (Ga.sl 2 rfl) (GX) (by omega) ?_; clear Ga; intro A16 c16 W16 Ga; simp only [Ge, Gf, List.nil_append, Nat.zero_add] at Ga)
  refine JA rfl ?_; go_wp2_with (refine GY (d := some 18) rfl rfl Ga rfl (by rfl) (by rfl) uz22 GF rfl (by decide) (by decide) 0 rfl (by rfl) (dig_sl (Ga.get 1 rfl)) (GX) (by omega) ?_; clear Ga; intro A18 c18 W18 Ga; simp only [Ge, Gf, List.nil_append, Nat.zero_add] at Ga)
  refine G6 rfl ?_; go_wp2_with ((go_at_call 76; (try clear Gb); refine (HS.out _ _ _ _ (by rw [← HB.out]; exact Ga.sl 0 rfl) (by decide)).mono ?_; rintro e Wk9 ⟨rfl, Gb⟩; replace Ga := Ga.keep Gb)); refine Gi Gb ?_
  refine JA rfl ?_; go_wp2_with ((refine Gr 2 19 Ga rfl (by rfl) (Gw rfl) (Dig.one _) Gv (Dig.size _) 3 rfl (by rfl) ?_; clear Ga; intro WS6 Ga; simp only [Ge, Gf] at Ga))
  refine H5 ?_
  go_wp2_with fail
  refine Hw rfl rfl rfl (Ga.get 3 rfl) uz32 rfl Gv (Dig.size _) ?_
  exact ⟨rfl, Ga.forget⟩
theorem rnoteB_any (n : NoteN) (w : World) (h : JN n = true) :
  Calls Tryz.prog 49 #[.agg (Ha n.name n.key n.turn)] w fun e w' => ∃ A c, e = .returned (.tuple #[.slice A (KZ n).length c, .int .i64 0]) ∧ St w w' [.row A (KZ n).length c 5 1 (GK (KZ n))] := by
 have Ga := St.refl w
 have h' := h
 unfold JN at h'
 rw [Bool.and_eq_true] at h'
 obtain ⟨h1, h3⟩ := h'
 have h2 := of_decide_eq_true h3
 clear h3
 have hl := J0 h1
 have HN := Gg (fun w => by have := Kx n.name w (by omega); rw [h1] at this; exact this)
 obtain ⟨t, ht⟩ := Int.eq_ofNat_of_zero_le h2.1
 have hB := Nh n
 have HBB := Gg (show GK (KZ n) = GK (UInt8.ofNat n.name.length :: n.name) ++ n.key.arr.toList ++ GK (Mp 4 t) by rw [KZ, ht, Dig.toList, ← Hj, ← Hj]; simp)
 have HP := Gg (fun w : World => by
  have := rput_any t 4 w (by decide) (by decide) (by omega)
  rw [show (((t >>> (8 * 4) : Nat) : Int) == 0) = true by rw [Nat.shiftRight_eq_div_pow, Nat.div_eq_of_lt (by omega)]; rfl] at this
  exact this)
 generalize KZ n = bs at *
 obtain ⟨s, k, m⟩ := n
 simp only at *
 obtain ⟨z, hz'⟩ : ∃ z, z = s.length := ⟨_, rfl⟩
 have HZ := Gg hz'
 have HL := Gg (len_byte s.length (by omega))
 have hz : (GZ s).size = z := by rw [Hf, hz']
 rw [← hz'] at hl hB
 have HBl := Gg hB
 clear hB hz'
 subst ht
 clear h h1 h2
 go_enter Tryz.func49, Tryz.ntmps49
 go_upto_region 1 with (go_big_may; (refine Gm 1 rfl (Gw rfl) ?_; (try clear Gb); intro g1 W1 Gb; replace Ga := Ga.tr1 Gb))
 go_upto_region 3 with (go_big_may; first | (go_at_call 31; (try clear Gb); refine (HN.out _).mono ?_; rintro e Wk10 ⟨rfl, Gb⟩; replace Ga := Ga.keep Gb) | (refine Gj 10 rfl (by rfl) uz9 rfl (Gy (Ga.get 0 rfl) Kf) ?_))
 go_upto_region 4 with (go_big_may; first | (go_at_call 93; (try clear Gb); refine (HP.out _).mono ?_; rintro e Wp ⟨Op, rfl, Gb⟩; replace Ga := Ga.trans Gb; simp only [Gc, Gd] at Ga; clear Gb) | (refine Gj 15 rfl (by rfl) uz3 rfl (Gy (Ga.get 0 rfl) KN) ?_))
 go_upto_region 6 with (go_big_may; fail)
 go_upto_region 7 with (go_big_may; first | (refine Gj 22 rfl (by rfl) uz9 rfl (Gy (Ga.get 1 rfl) Kf) ?_) | (refine Gq 25 rfl [_] (Kj (Gw rfl)) rfl uz22 GF rfl (by (simp [Value.cells]; done)) (by decide) (by decide) ?_; (try clear Gb); intro g25 W25 Gb; replace Ga := Ga.tr1 Gb; simp only [List.flatMap_cons, List.flatMap_nil, List.append_nil, Value.cells, List.toList_toArray] at Ga))
 have HU := Gg (show [Value.int .u8 (z : Int)] = GK (UInt8.ofNat s.length :: s.take 0) from by
  have h1 : (UInt8.ofNat s.length).toNat = z := by rw [UInt8.toNat_ofNat', ← HZ.out]; omega
  simp [GK, JC, h1])
 rw [HU.out] at Ga
 clear Gb HU HP HN
 go_wp2_with fail
 go_loopg [6, 7] z (fun gk s6 s7 wr => ∃ (i : Nat) (O : Option Addr) (oc : Nat), Hid (i + gk = z) ∧ s6 = .slice O (1 + i) oc ∧ s7 = .int .i64 (i : Int) ∧ St w wr [.row O (1 + i) oc 5 1 (GK (UInt8.ofNat s.length :: s.take i)), .row Op 4 4 5 1 (GK (Mp 4 t)), .blk g1 34 (Ha s k (t : Int))])
 case atStart => exact ⟨0, g25, 1, Gg (by omega), rfl, rfl, Ga⟩
 case round =>
  clear Ga
  obtain ⟨i, O, oc, HI, rfl, rfl, Ga⟩ := hrel
  have hi := HI.out
  by_cases hin : i < z
  ·have hil : i < s.length := by rw [← HZ.out]; exact hin
   have HC := Gg (bs_at s i hil)
   have HE := Gg (show GK (UInt8.ofNat s.length :: s.take i) ++ [Value.int .u8 ((s.getD i 0).toNat : Int)] = GK (UInt8.ofNat s.length :: s.take (i + 1)) by
    rw [List.take_succ_eq_append_getElem hil, List.getD_eq_getElem?_getD, List.getElem?_eq_getElem hil, Option.getD_some, ← List.cons_append, Hj]
    rfl)
   generalize s.getD i 0 = b at *
   have hi30 : i ≤ 30 := by omega
   clear hil hi
   go_upto_region 10 with (go_big_may; (refine Gj 28 rfl (by rfl) uz9 rfl (Gy (Ga.get 2 rfl) Kf) ?_))
   go_upto_region 9 with (go_big_may; first | (refine MI (d := some 37) rfl rfl rfl uz9 rfl (by rfl) i rfl HC.out ?_) | (refine Gj 35 rfl (by rfl) uz9 rfl (Gy (Ga.get 2 rfl) Kf) ?_) | (refine Gq 38 rfl [_] (Kj (Gw rfl)) rfl uz22 GF rfl (by (simp [Value.cells]; done)) (by decide) (by decide) ?_; (try clear Gb); intro g38 W38 Gb; replace Ga := Ga.tr1 Gb; simp only [List.flatMap_cons, List.flatMap_nil, List.append_nil, Value.cells, List.toList_toArray] at Ga) | (refine GY (d := some 39) rfl rfl Ga rfl (by rfl) (by rfl) uz22 GF rfl (by decide) (by decide) 1 rfl (by rfl) (Ga.sl 0 rfl) (by (simp [Value.oneCell']; done)) (by omega) ?_; clear Ga; intro A39 c39 W39 Ga; simp only [Ge, Gf, List.nil_append, Nat.zero_add] at Ga))
   go_wp2_with (fail)
   rw [HE.out] at Ga
   go_roundg (gk - 1)
   case measure => have := HI.out; omega
   case rel => exact ⟨i + 1, _, _, Gg (by have := HI.out; omega), rfl, by go_num, Ga.pick [1, 2, 3] (by decide)⟩
  ·obtain rfl : i = z := by omega
   have HE := Gg (show s.take i = s by rw [HZ.out, List.take_length])
   rw [HE.out] at Ga
   clear hi HI hin HE
   go_upto_region 11 with (go_big_may; (refine Gj 28 rfl (by rfl) uz9 rfl (Gy (Ga.get 2 rfl) Kf) ?_))
   go_upto_region 12 with (go_big_may; first | (refine Gn 41 rfl (by rfl) uz32 rfl Gv (MG (Ga.get 2 rfl)) (Dig.size _) ?_) | (refine Gk 8 rfl Gv ?_; (try clear Gb); intro g8 W8 Gb; replace Ga := Ga.tr1 Gb) | ((refine Gr 8 41 Ga rfl (by rfl) (Gw rfl) (Dig.one _) Gv (Dig.size _) 0 rfl (by rfl) ?_; clear Ga; intro WS3 Ga; simp only [Ge, Gf] at Ga)))
   go_upto_region 13 with (go_big_may; first | (refine Jx (d := some 43) rfl rfl rfl (by rfl) uz32 GF (Ga.get 0 rfl) (Dig.size _) (by decide) ?_; intro hs43) | (refine GY (d := some 44) rfl rfl Ga rfl (by rfl) (by rfl) uz22 GF rfl (by decide) (by decide) 1 rfl (by rfl) (by (assumption)) (GX) (by omega) ?_; clear Ga; intro A44 c44 W44 Ga; simp only [Ge, Gf, List.nil_append, Nat.zero_add] at Ga))
   go_wp2_with (refine GY (d := some 47) rfl rfl Ga rfl (by rfl) (by rfl) uz22 GF rfl (by decide) (by decide) 1 rfl (by rfl) (Ga.sl 2 rfl) (GX) (by omega) ?_; clear Ga; intro A47 c47 W47 Ga; simp only [Ge, Gf, List.nil_append, Nat.zero_add] at Ga)
   go_ret2
   rw [HBl.out, show i + 37 = 1 + i + 32 + 4 by omega, HBB.out]
   exact ⟨_, _, rfl, Ga.pick [1] (by decide)⟩
end
section
open Go.RowKit
attribute [local simp] Jq
theorem entc {W : World} {g off i : Nat} {es : List (Nat × Dig)} (h : W.rangeAt g (off + (i : Int).toNat * 33) (((Jc es).drop ((i : Int).toNat * 33)).take 33)) (hi : i < es.length) : W.rangeAt g (off + (i : Int).toNat * 33) (J7 ((es[i].1 : Nat) : Int) es[i].2).toList := by
 rwa [show ((Jc es).drop ((i : Int).toNat * 33)).take 33 = _ from entL_at es i hi] at h
theorem entk {W : World} {g off i : Nat} {es : List (Nat × Dig)} (h : W.rangeAt g (off + (i : Int).toNat * 33) (((Jc es).drop ((i : Int).toNat * 33)).take 33)) (hi : i < es.length) : W.cell? ⟨g, off + (i : Int).toNat * 33 + 0, none⟩ = some (.int .i64 ((es[i].1 : Nat) : Int)) :=
 entc h hi 0 _ rfl
theorem ent_one (x : Nat × Dig) : Jc [x] = (J7 ((x.1 : Nat) : Int) x.2).toList := by
 rw [Jc, entI, List.map_cons, List.map_nil, pairsL_one]
section
variable {P : Program} {ops : Array Oper} {rest : List Oper} {o : Oper} {a : Act} {W : World} {Q : Exit → Act → World → Prop} {d : Option Tmp}
theorem L_remN (hd : o.dst = d) (hw : Region.wanted o (yielded ops a.tmps) = true) {t t' : TypeId} {x y : Operand} (ho : o.op = .binOp .rem t x y t') {p q : Nat} {Y : Int} (hx : a.eval x = .int .i64 (p : Int)) (hy : a.eval y = .int .i64 Y) (hY : Y = (q : Int)) (hq : 0 < q)
  (h : wpList P ops Q rest (a.put d (.int .i64 ((p % q : Nat) : Int))) W) : wpList P ops Q (o :: rest) a W := by
 subst hY
 refine Js hd hw ?_ h
 unfold execOp
 simp only [ho, hx, hy]
 have h1 : (eqGuard .rem t x y (.int .i64 (p : Int)) (.int .i64 (q : Int))).run P W = .ok () W := by simp [eqGuard]
 have h2 : (Go.binOp .rem t (.int .i64 (p : Int)) (.int .i64 (q : Int))).run P W = .ok (.int .i64 ((p % q : Nat) : Int)) W := by
  have hz : ¬ (q = 0) := by omega
  have e : (p : Int).tmod (q : Int) = ((p % q : Nat) : Int) := by rw [Int.tmod_eq_emod_of_nonneg (by omega)]; simp
  simp [Go.binOp, Op.intDiv, hz, e]
 simp [h1, h2]
end
theorem runder_any (es : List (Nat × Dig)) (A : Option Addr) (n c frm many : Nat) (w : World) (hx : SlR w A n c 33 (Jc es)) (hn : n ≤ 256) (hk : ∀ e ∈ es, e.1 < 4294967296) (hf : frm ≤ 4294967296) (hm : many ≤ 4294967296) :
  Calls Tryz.prog 87 #[.slice A n c, .int .i64 (frm : Int), .int .i64 (many : Int)] w fun e w' => ∃ O oc, e = .returned (.slice O (P0 es frm many).length oc) ∧ St w w' [.row O (P0 es frm many).length oc 110 33 (Jc (P0 es frm many))] := by
 have Ga := St.refl w
 have hl : es.length = n := by have := hx.1; rw [Jv] at this; omega
 have HL := Gg hl
 have HX := Gg hx
 have HK := Gg (fun (i : Nat) (h : i < es.length) => hk es[i] (List.getElem_mem h))
 clear hl hx hk
 go_enter Tryz.func87, Tryz.ntmps87
 go_upto_region 1 with (go_big_may; fail)
 go_upto_region 2 with (go_big_may; fail)
 go_wp2_with (fail)
 replace Ga := Ga.nilRow 110 33
 go_loopg [7, 8] n (fun gk s7 s8 wr => ∃ (i l : Nat) (O : Option Addr) (oc : Nat), Hid (i + gk = n) ∧ Hid (l = (P0 (es.take i) frm many).length) ∧ s7 = .slice O l oc ∧ s8 = .int .i64 (i : Int) ∧ St w wr [.row O l oc 110 33 (Jc (P0 (es.take i) frm many))])
 case atStart => exact ⟨0, 0, none, 0, Gg (by omega), Lib.hid rfl, rfl, rfl, Ga⟩
 case round =>
  clear Ga
  obtain ⟨i, l, O, oc, HI, HLn, rfl, rfl, Ga⟩ := hrel
  have hi := HI.out
  by_cases hin : i < n
  ·have hil : i < es.length := by rw [HL.out]; exact hin
   have HC := Gg (fun (W : World) (g off : Nat) h => entc (W := W) (g := g) (off := off) (i := i) (es := es) h hil)
   have HC0 := Gg (fun (W : World) (g off : Nat) h => entk (W := W) (g := g) (off := off) (i := i) (es := es) h hil)
   have hk := HK.out i hil
   have hu := undN_take hil frm many
   have hll : l ≤ 256 := by
    have h1 := HLn.out
    have h2 := undN_len (es.take i) frm many
    rw [List.length_take] at h2
    omega
   obtain ⟨x, hx⟩ : ∃ x, x = es[i] := ⟨_, rfl⟩
   rw [← hx] at HC HC0 hk hu
   clear hx hil hi
   obtain ⟨k, v⟩ := x
   simp only at HC HC0 hk hu
   obtain ⟨U, hU⟩ : ∃ U, U = P0 (es.take i) frm many := ⟨_, rfl⟩
   have HUl := Gg (show l = U.length by rw [hU]; exact HLn.out)
   rw [← hU] at hu Ga
   by_cases c1 : frm ≤ k
   ·have e1 : decide ((frm : Int) ≤ (k : Int)) = true := decide_eq_true (by omega)
    have p1 : (frm : Int) ≤ (k : Int) := by omega
    by_cases c2 : k < frm + many
    ·have e2 : decide ((k : Int) - (frm : Int) < (many : Int)) = true := decide_eq_true (by omega)
     have p2 : (k : Int) - (frm : Int) < (many : Int) := by omega
     rw [if_pos ⟨c1, c2⟩] at hu
     have HU := Gg hu
     have HE := Gg (show Jc U ++ (J7 (k : Int) v).toList = Jc (U ++ [(k, v)]) by rw [entL_app, ent_one])
     clear hU hu HLn c1 c2
     go_upto_region 5 with (go_big_may; fail)
     go_upto_region 6 with (go_big_may; first | (refine Gj 19 rfl (by rfl) uz3 rfl (HC0.out _ _ _ hr17) ?_) | (refine Gj 27 rfl (by rfl) uz3 rfl (HC0.out _ _ _ hr25) ?_) | (refine Gp 17 rfl (by rfl) (by rfl) uz93 Hc (Ga.old (by decide) HX.out) (by omega) (by omega) ?_; intro o17 p17 ha17 hr17; ((subst ha17))) | (refine Gp 25 rfl (by rfl) (by rfl) uz93 Hc (Ga.old (by decide) HX.out) (by omega) (by omega) ?_; intro o25 p25 ha25 hr25; ((obtain ⟨h1, h2⟩ := Jb ha25; subst h1; subst h2; clear ha25))))
     go_upto_region 4 with (go_big_may; first | (refine Gn 37 rfl (by rfl) uz110 rfl Hc (HC.out _ _ _ hr36) (Jq _ _) ?_) | (refine Gp 36 rfl (by rfl) (by rfl) uz93 Hc (Ga.old (by decide) HX.out) (by omega) (by omega) ?_; intro o36 p36 ha36 hr36; ((obtain ⟨h1, h2⟩ := Jb ha36; subst h1; subst h2; clear ha36))) | (refine Gq 38 rfl [_] (Kj (Gw rfl)) rfl uz93 Hc rfl (by (simp [Value.cells]; done)) (by decide) (by decide) ?_; (try clear Gb); intro g38 W38 Gb; replace Ga := Ga.tr1 Gb; simp only [List.flatMap_cons, List.flatMap_nil, List.append_nil, Value.cells, List.toList_toArray] at Ga) | (refine GY (d := some 39) rfl rfl Ga rfl (by rfl) (by rfl) uz93 Hc rfl (by decide) (by decide) 1 rfl (by rfl) (Ga.sl 0 rfl) (NH _ _) (by omega) ?_; clear Ga; intro A39 c39 W39 Ga; simp only [Ge, Gf, List.nil_append, Nat.zero_add] at Ga))
     go_wp2_with (fail)
     rw [HE.out, ← HU.out] at Ga
     go_roundg (gk - 1)
     case measure => have := HI.out; omega
     case rel => exact ⟨i + 1, l + 1, _, _, Gg (by have := HI.out; omega), Gg (by rw [HU.out, List.length_append, List.length_singleton, ← HUl.out]), rfl, by go_num, Ga.pick [1] (by decide)⟩
    ·have e2 : decide ((k : Int) - (frm : Int) < (many : Int)) = false := decide_eq_false (by omega)
     have p2 : ¬ (k : Int) - (frm : Int) < (many : Int) := by omega
     rw [if_neg (fun h => c2 h.2)] at hu
     have HU := Gg hu
     clear hU hu HLn c1 c2
     go_upto_region 5 with (go_big_may; fail)
     go_upto_region 4 with (go_big_may; first | (refine Gj 19 rfl (by rfl) uz3 rfl (HC0.out _ _ _ hr17) ?_) | (refine Gj 27 rfl (by rfl) uz3 rfl (HC0.out _ _ _ hr25) ?_) | (refine Gp 17 rfl (by rfl) (by rfl) uz93 Hc (Ga.old (by decide) HX.out) (by omega) (by omega) ?_; intro o17 p17 ha17 hr17; ((subst ha17))) | (refine Gp 25 rfl (by rfl) (by rfl) uz93 Hc (Ga.old (by decide) HX.out) (by omega) (by omega) ?_; intro o25 p25 ha25 hr25; ((obtain ⟨h1, h2⟩ := Jb ha25; subst h1; subst h2; clear ha25))))
     go_wp2_with (fail)
     rw [← HU.out] at Ga
     go_roundg (gk - 1)
     case measure => have := HI.out; omega
     case rel => exact ⟨i + 1, l, _, _, Gg (by have := HI.out; omega), Gg (by rw [HU.out]; exact HUl.out), rfl, by go_num, Ga⟩
   ·have e1 : decide ((frm : Int) ≤ (k : Int)) = false := decide_eq_false (by omega)
    have p1 : ¬ (frm : Int) ≤ (k : Int) := by omega
    rw [if_neg (fun h => c1 h.1)] at hu
    have HU := Gg hu
    clear hU hu HLn c1
    go_upto_region 5 with (go_big_may; fail)
    go_upto_region 4 with (first | (with_reducible refine GI (t := 23) rfl (by kernel_rfl) ?_) | (with_reducible refine GI (t := 24) rfl (by kernel_rfl) ?_) | (with_reducible refine GI (t := 25) rfl (by kernel_rfl) ?_) | (with_reducible refine GI (t := 26) rfl (by kernel_rfl) ?_) | (with_reducible refine GI (t := 27) rfl (by kernel_rfl) ?_) | (with_reducible refine GI (t := 28) rfl (by kernel_rfl) ?_) | (with_reducible refine GI (t := 29) rfl (by kernel_rfl) ?_) | (with_reducible refine GI (t := 30) rfl (by kernel_rfl) ?_) | (with_reducible refine GI (t := 31) rfl (by kernel_rfl) ?_) | (go_big_may; first | (refine Gj 19 rfl (by rfl) uz3 rfl (HC0.out _ _ _ hr17) ?_) | (refine Gp 17 rfl (by rfl) (by rfl) uz93 Hc (Ga.old (by decide) HX.out) (by omega) (by omega) ?_; intro o17 p17 ha17 hr17; ((subst ha17)))))
    go_wp2_with (fail)
    rw [← HU.out] at Ga
    go_roundg (gk - 1)
    case measure => have := HI.out; omega
    case rel => exact ⟨i + 1, l, _, _, Gg (by have := HI.out; omega), Gg (by rw [HU.out]; exact HUl.out), rfl, by go_num, Ga⟩
  ·obtain rfl : i = n := by omega
   have HE := Gg (show es.take i = es from List.take_of_length_le (by rw [HL.out]; exact Nat.le_refl _))
   rw [HE.out] at Ga HLn
   obtain rfl := HLn.out
   clear hi HI HE HLn
   go_upto_region 7 with (go_big_may; fail)
   go_wp2_with (fail)
   go_ret
   exact ⟨_, _, rfl, Ga.pick [0] (by decide)⟩
theorem rmaproot_any : ∀ (b : Nat) (es : List (Nat × Dig)) (A : Option Addr) (n c : Nat) (F M : Int) (w : World), SlR w A n c 33 (Jc es) → n ≤ 256 → (∀ e ∈ es, e.1 < 4294967296) → 0 ≤ F → F + M ≤ 4294967296 → M = ((2 ^ b : Nat) : Int) →
  Calls Tryz.prog 42 #[.slice A n c, .int .i64 F, .int .i64 M] w fun e w' => e = .returned (Jy (Hq es) b F.toNat).v ∧ St w w' [] := by
 intro b
 induction b with
 | zero =>
  intro es A n c F M w hx hn hk hF hFM hM
  have Ga := St.refl w
  obtain ⟨frm, rfl⟩ := Int.eq_ofNat_of_zero_le hF
  obtain rfl : M = ((1 : Nat) : Int) := hM
  have HX := Gg hx
  have HU := Gg (fun (w' : World) h => runder_any es A n c frm 1 w' h hn hk (by omega) (by decide))
  have HK := Gg (undN_keys (frm := frm) (many := 1) hk)
  rw [Int.toNat_natCast]
  cases hu : P0 es frm 1 with
  | nil =>
   have HM := Gg (mRoot_und_none (b := 0) hu)
   rw [hu] at HU
   generalize Jy (Hq es) 0 frm = r at *
   clear hx hn hk hF hFM hu HK
   go_enter Tryz.func42, Tryz.ntmps42
   go_upto_region 1 with (go_big_may; (refine Gk 6 rfl Gv ?_; (try clear Gb); intro g6 W6 Gb; replace Ga := Ga.tr1 Gb))
   go_upto_region 2 with (go_big_may; (go_at_call 87; (try clear Gb); refine (HU.out _ (Ga.old (by decide) HX.out)).mono ?_; rintro e Wu ⟨O, oc, rfl, Gb⟩; replace Ga := Ga.trans Gb; simp only [Gc, Gd] at Ga))
   go_upto_region 3 with (go_big_may; fail)
   go_wp2_with (first | (go_at_call 52; (try clear Gb); refine (KO _).mono ?_; rintro e Wk1 ⟨rfl, Gb⟩; replace Ga := Ga.keep Gb) | ((refine Gr 6 16 Ga rfl (by rfl) (Gw rfl) (Dig.one _) Gv (by rfl) 1 rfl (by rfl) ?_; clear Ga; intro WS1 Ga; simp only [Ge, Gf] at Ga)))
   refine Hw rfl rfl rfl (Ga.get 1 rfl) uz32 rfl Gv (by rfl) ?_
   rw [HM.out]
   exact ⟨rfl, Ga.forget⟩
  | cons x xs =>
   have HM := Gg (mRoot_und_one hu)
   rw [hu] at HU HK
   have HE := Gg (fun w' => rentryleaf_any x.1 x.2 w' (HK.out x (by simp)))
   have HP := Gg (entL_at (x :: xs) 0 (by simp))
   obtain ⟨l, hl⟩ : ∃ l, l = (x :: xs).length := ⟨_, rfl⟩
   rw [← hl] at HU
   have hl1 : 0 < l := by rw [hl]; simp
   have hl0 : ((l : Int) == 0) = false := by rw [beq_eq_false_iff_ne]; omega
   obtain ⟨k, v⟩ := x
   simp only [List.getElem_cons_zero] at *
   generalize Jy (Hq es) 0 frm = r at *
   generalize K2 k v = ev at *
   generalize Jc ((k, v) :: xs) = el at *
   clear hx hn hk hF hFM hu HK hl
   go_enter Tryz.func42, Tryz.ntmps42
   go_upto_region 1 with (go_big_may; (refine Gk 6 rfl Gv ?_; (try clear Gb); intro g6 W6 Gb; replace Ga := Ga.tr1 Gb))
   go_upto_region 2 with (go_big_may; (go_at_call 87; (try clear Gb); refine (HU.out _ (Ga.old (by decide) HX.out)).mono ?_; rintro e Wu ⟨O, oc, rfl, Gb⟩; replace Ga := Ga.trans Gb; simp only [Gc, Gd] at Ga))
   go_upto_region 4 with (go_big_may; fail)
   go_upto_region 5 with (go_big_may; fail)
   go_wp2_with (first | (refine Gn 21 rfl (by rfl) uz110 rfl Hc (cs := J7 (k : Int) v) (by rw [← HP.out]; exact hr20) (Jq _ _) ?_) | (go_at_call 54; (try clear Gb); refine (HE.out _).mono ?_; rintro e Wk2 ⟨rfl, Gb⟩; replace Ga := Ga.keep Gb) | (refine Gp 20 rfl (by rfl) (by rfl) uz93 Hc (Ga.sl 0 rfl) (by omega) (by omega) ?_; intro o20 p20 ha20 hr20; ((subst ha20))) | ((refine Gr 6 22 Ga rfl (by rfl) (Gw rfl) (Dig.one _) Gv (Dig.size _) 1 rfl (by rfl) ?_; clear Ga; intro WS4 Ga; simp only [Ge, Gf] at Ga)))
   refine Hw rfl rfl rfl (Ga.get 1 rfl) uz32 rfl Gv (Dig.size _) ?_
   rw [HM.out]
   exact ⟨rfl, Ga.forget⟩
 | succ b ih =>
  intro es A n c F M w hx hn hk hF hFM hM
  have Ga := St.refl w
  obtain ⟨frm, rfl⟩ := Int.eq_ofNat_of_zero_le hF
  obtain ⟨m, hm⟩ : ∃ m : Nat, m = 2 ^ (b + 1) := ⟨_, rfl⟩
  obtain ⟨h, hh⟩ : ∃ h : Nat, h = 2 ^ b := ⟨_, rfl⟩
  have hp := Nat.two_pow_pos b
  have e2 : m = h + h := by rw [hm, hh, Nat.pow_succ]; omega
  have hh0 : 0 < h := by omega
  obtain rfl : M = (m : Int) := by rw [hM, hm]
  have HX := Gg hx
  have HU := Gg (fun (w' : World) h => runder_any es A n c frm m w' h hn hk (by omega) (by omega))
  have HK := Gg (undN_keys (frm := frm) (many := m) hk)
  have hs := mRoot_und_s es b frm
  rw [← hm, ← hh] at hs
  rw [Int.toNat_natCast]
  cases hu : P0 es frm m with
  | nil =>
   have HM := Gg (show Jy (Hq es) (b + 1) frm = GM from mRoot_und_none (b := b + 1) (by rw [← hm]; exact hu))
   rw [hu] at HU
   generalize Jy (Hq es) (b + 1) frm = r at *
   clear hx hn hk hF hFM hM hu HK hs ih hm hh hp e2 hh0
   go_enter Tryz.func42, Tryz.ntmps42
   go_upto_region 1 with (go_big_may; (refine Gk 6 rfl Gv ?_; (try clear Gb); intro g6 W6 Gb; replace Ga := Ga.tr1 Gb))
   go_upto_region 2 with (go_big_may; (go_at_call 87; (try clear Gb); refine (HU.out _ (Ga.old (by decide) HX.out)).mono ?_; rintro e Wu ⟨O, oc, rfl, Gb⟩; replace Ga := Ga.trans Gb; simp only [Gc, Gd] at Ga))
   go_upto_region 3 with (go_big_may; fail)
   go_wp2_with (first | (go_at_call 52; (try clear Gb); refine (KO _).mono ?_; rintro e Wk3 ⟨rfl, Gb⟩; replace Ga := Ga.keep Gb) | ((refine Gr 6 16 Ga rfl (by rfl) (Gw rfl) (Dig.one _) Gv (by rfl) 1 rfl (by rfl) ?_; clear Ga; intro WS1 Ga; simp only [Ge, Gf] at Ga)))
   refine Hw rfl rfl rfl (Ga.get 1 rfl) uz32 rfl Gv (by rfl) ?_
   rw [HM.out]
   exact ⟨rfl, Ga.forget⟩
  | cons x xs =>
   obtain ⟨us, hus⟩ : ∃ us, us = x :: xs := ⟨_, rfl⟩
   rw [← hus] at hu
   rw [hu] at HU HK hs
   have hln : us.length ≤ 256 := by
    have h1 := undN_len es frm m
    rw [hu] at h1
    have h2 := hx.1
    rw [Jv] at h2
    omega
   obtain ⟨l, hl⟩ : ∃ l, l = us.length := ⟨_, rfl⟩
   have hl1 : 0 < l := by rw [hl, hus]; simp
   have hl0 : ((l : Int) == 0) = false := by rw [beq_eq_false_iff_ne]; omega
   have hm1 : ((m : Int) == 1) = false := by rw [beq_eq_false_iff_ne]; omega
   rw [← hl] at HU hln
   have HI := Gg (fun (O : Option Addr) (oc : Nat) (G : Int) (w' : World) (h : SlR w' O l oc 33 (Jc us)) (h1 : 0 ≤ G) (h2 : G + ((m : Int) / 2) ≤ 4294967296) => ih us O l oc G ((m : Int) / 2) w' h hln HK.out h1 h2 (by rw [← hh]; omega))
   have HS := Gg hs
   have HT := Gg (show frm + m / 2 = frm + h by omega)
   have hmb : m ≤ 4294967296 := by omega
   have hfb : (frm : Int) + (m : Int) ≤ 4294967296 := by omega
   generalize Jy (Hq es) (b + 1) frm = r at *
   clear hx hn hk hF hFM hM hu HK hs ih hm hh hp e2 hh0 hl hus
   go_enter Tryz.func42, Tryz.ntmps42
   go_upto_region 1 with (go_big_may; (refine Gk 6 rfl Gv ?_; (try clear Gb); intro g6 W6 Gb; replace Ga := Ga.tr1 Gb))
   go_upto_region 2 with (go_big_may; (go_at_call 87; (try clear Gb); refine (HU.out _ (Ga.old (by decide) HX.out)).mono ?_; rintro e Wu ⟨O, oc, rfl, Gb⟩; replace Ga := Ga.trans Gb; simp only [Gc, Gd] at Ga))
   go_upto_region 4 with (go_big_may; fail)
   go_upto_region 6 with (go_big_may; fail)
   go_upto_region 7 with (go_big_may; fail)
   (try clear Gb)
   go_wp2_with (first | (go_at_call 42; (try clear Gb); refine (HI.out _ _ _ _ (Ga.sl 0 rfl) (by omega) (by omega)).mono ?_; rintro e Wk ⟨rfl, Gb⟩; replace Ga := Ga.keep Gb) | (go_at_call 88; (try clear Gb); refine (rmapnode_any _ _ _).mono ?_; rintro e Wk4 ⟨rfl, Gb⟩; replace Ga := Ga.keep Gb) | ((refine Gr 6 35 Ga rfl (by rfl) (Gw rfl) (Dig.one _) Gv (Dig.size _) 1 rfl (by rfl) ?_; clear Ga; intro WS11 Ga; simp only [Ge, Gf] at Ga)))
   refine Hw rfl rfl rfl (Ga.get 1 rfl) uz32 rfl Gv (Dig.size _) ?_
   rw [HS.out, ← HT.out]
   exact ⟨rfl, Ga.forget⟩
theorem rmappath_any (es : List (Nat × Dig)) (A : Option Addr) (n c k : Nat) (w : World) (hx : SlR w A n c 33 (Jc es)) (hn : n ≤ 256) (hk : ∀ e ∈ es, e.1 < 4294967296) (hk2 : k < 4294967296) :
  Calls Tryz.prog 44 #[.slice A n c, .int .i64 (k : Int)] w fun e w' => ∃ O oc, e = .returned (.slice O 32 oc) ∧ St w w' [.row O 32 oc 32 32 (GP (MK (Hq es) k 32))] := by
 have Ga := St.refl w
 have HX := Gg hx
 have HR := Gg (fun (b : Nat) (F M : Int) (w' : World) (h : SlR w' A n c 33 (Jc es)) (h1 : 0 ≤ F) (h2 : F + M ≤ 4294967296) (h3 : M = ((2 ^ b : Nat) : Int)) => rmaproot_any b es A n c F M w' h hn hk h1 h2 h3)
 generalize Hq es = f at *
 clear hx hn hk
 go_enter Tryz.func44, Tryz.ntmps44
 go_upto_region 1 with (go_big_may; fail)
 go_upto_region 2 with (go_big_may; fail)
 go_upto_region 3 with (go_big_may; fail)
 go_wp2_with (fail)
 replace Ga := Ga.nilRow 32 32
 go_loopg [5, 6, 7] 32 (fun gk s5 s6 s7 wr => ∃ (i m : Nat) (O : Option Addr) (oc : Nat), Hid (i + gk = 32) ∧ Hid (m = 2 ^ i) ∧ s5 = .slice O i oc ∧ s6 = .int .i64 (m : Int) ∧ s7 = .int .i64 (i : Int) ∧ St w wr [.row O i oc 32 32 (GP (MK f k i))])
 case atStart => exact ⟨0, 1, none, 0, Gg (by omega), Lib.hid rfl, rfl, rfl, rfl, Ga⟩
 case round =>
  clear Ga
  obtain ⟨i, m, O, oc, HI, HM, rfl, rfl, rfl, Ga⟩ := hrel
  have hi := HI.out
  by_cases hin : i < 32
  ·have hm := HM.out
   have hm0 : 0 < m := by rw [hm]; exact Nat.two_pow_pos i
   have hmb : m ≤ 2147483648 := by
    rw [hm]
    exact Nat.pow_le_pow_right (n := 2) (by decide) (show i ≤ 31 by omega)
   obtain ⟨r, hr⟩ : ∃ r, r = k % (2 * m) := ⟨_, rfl⟩
   have hrk : r ≤ k := by rw [hr]; exact Nat.mod_le _ _
   have hrm : r < 2 * m := by rw [hr]; exact Nat.mod_lt _ (by omega)
   have hsib := sib_ref k i
   rw [← hm, ← hr] at hsib
   simp only at hsib
   obtain ⟨q, hq1, hq2⟩ := sib_form hk2 (show i ≤ 31 by omega)
   rw [← hm] at hq1 hq2
   rw [← hq1] at hq2
   have HPs := Gg (show GP (MK f k i) ++ (Jy f i (Nw i k)).arr.toList = GP (MK f k (i + 1)) by
    rw [mPath_s]
    unfold GP
    rw [List.flatMap_append, Dig.toList]
    simp only [List.flatMap_cons, List.flatMap_nil, List.append_nil])
   have HRm := Gg hr
   have HM2 := Gg (show 2 * m = 2 ^ (i + 1) by rw [hm, Nat.pow_succ]; omega)
   have HRi := Gg (fun (F : Int) (w' : World) (h : SlR w' A n c 33 (Jc es)) (h0 : F = ((Nw i k : Nat) : Int)) => by
    have := HR.out i F (m : Int) w' h (by omega) (by omega) (by rw [hm])
    rw [show F.toNat = Nw i k by omega] at this
    exact this)
   obtain ⟨s, hs⟩ : ∃ s, s = Nw i k := ⟨_, rfl⟩
   rw [← hs] at hsib hq2 HPs HRi
   generalize Jy f i s = rt at *
   clear hm hr hq1 hs hi
   by_cases c1 : r < m
   ·have e1 : (k : Int) - ((k : Int) - (r : Int)) < (m : Int) := by omega
    rw [if_pos (by omega)] at hsib
    go_upto_region 6 with (go_big_may; fail)
    go_upto_region 7 with (go_big_may; (refine L_remN (d := some 17) rfl rfl rfl (q := 2 * m) (Gw rfl) (Gw rfl) (by omega) (by omega) ?_; rewrite [← HRm.out]))
    go_upto_region 8 with (go_big_may; fail)
    go_upto_region 9 with (go_big_may; fail)
    go_upto_region 10 with (go_big_may; first | (go_at_call 42; (try clear Gb); refine (HRi.out _ _ (Ga.old (by decide) HX.out) (by omega)).mono ?_; rintro e Wk ⟨rfl, Gb⟩; replace Ga := Ga.keep Gb) | (refine Gq 32 rfl [_] (Kj (Gw rfl)) rfl uz44 Gv rfl (by (simp [Value.cells, Dig.size]; done)) (by decide) (by decide) ?_; (try clear Gb); intro g32 W32 Gb; replace Ga := Ga.tr1 Gb; simp only [List.flatMap_cons, List.flatMap_nil, List.append_nil, Value.cells, List.toList_toArray] at Ga) | (refine GY (d := some 33) rfl rfl Ga rfl (by rfl) (by rfl) uz44 Gv rfl (by decide) (by decide) 1 rfl (by rfl) (Ga.sl 0 rfl) (GX) (by omega) ?_; clear Ga; intro A33 c33 W33 Ga; simp only [Ge, Gf, List.nil_append, Nat.zero_add] at Ga))
    go_upto_region 5 with (go_big_may; fail)
    go_wp2_with (fail)
    rw [HPs.out] at Ga
    go_roundg (gk - 1)
    case measure => have := HI.out; omega
    case rel => exact ⟨i + 1, 2 * m, _, _, Gg (by have := HI.out; omega), HM2, rfl, by go_num, by go_num, Ga.pick [1] (by decide)⟩
   ·have e1 : ¬ (k : Int) - ((k : Int) - (r : Int)) < (m : Int) := by omega
    rw [if_neg (by omega)] at hsib
    go_upto_region 6 with (go_big_may; fail)
    go_upto_region 7 with (go_big_may; (refine L_remN (d := some 17) rfl rfl rfl (q := 2 * m) (Gw rfl) (Gw rfl) (by omega) (by omega) ?_; rewrite [← HRm.out]))
    go_upto_region 9 with (go_big_may; fail)
    go_upto_region 10 with (go_big_may; first | (go_at_call 42; (try clear Gb); refine (HRi.out _ _ (Ga.old (by decide) HX.out) (by omega)).mono ?_; rintro e Wk ⟨rfl, Gb⟩; replace Ga := Ga.keep Gb) | (refine Gq 32 rfl [_] (Kj (Gw rfl)) rfl uz44 Gv rfl (by (simp [Value.cells, Dig.size]; done)) (by decide) (by decide) ?_; (try clear Gb); intro g32 W32 Gb; replace Ga := Ga.tr1 Gb; simp only [List.flatMap_cons, List.flatMap_nil, List.append_nil, Value.cells, List.toList_toArray] at Ga) | (refine GY (d := some 33) rfl rfl Ga rfl (by rfl) (by rfl) uz44 Gv rfl (by decide) (by decide) 1 rfl (by rfl) (Ga.sl 0 rfl) (GX) (by omega) ?_; clear Ga; intro A33 c33 W33 Ga; simp only [Ge, Gf, List.nil_append, Nat.zero_add] at Ga))
    go_upto_region 5 with (go_big_may; fail)
    go_wp2_with (fail)
    rw [HPs.out] at Ga
    go_roundg (gk - 1)
    case measure => have := HI.out; omega
    case rel => exact ⟨i + 1, 2 * m, _, _, Gg (by have := HI.out; omega), HM2, rfl, by go_num, by go_num, Ga.pick [1] (by decide)⟩
  ·obtain rfl : i = 32 := by omega
   clear hi HI
   go_upto_region 11 with (go_big_may; fail)
   go_wp2_with (fail)
   go_ret
   exact ⟨_, _, rfl, Ga.pick [0] (by decide)⟩
end
section
open Go.RowKit
attribute [local simp] Jq
def AddEnd (key : List UInt8) (ns : List NoteN) (s : List UInt8) (k : Dig) (p : LgP) (w0 : World) (L : List Res) (e : Ending) (w' : World) : Prop :=
 (Kk ns s = 0 ∧ e = .returned (.tuple #[.int .i64 (ns.length : Int), .nilIface]) ∧ ∃ p' : LgP, p'.g = p.g ∧ p'.m = p.m ∧ MapsOf (ns ++ [M0 ns s k]) p'.nm p'.am ∧ St w0 w' (lgL p' key (ns ++ [M0 ns s k]) ++ L)) ∨
 (Kk ns s ≠ 0 ∧ e = .returned (.tuple #[.int .i64 0, JL (Kk ns s)]) ∧ St w0 w' (lgL p key ns ++ L))
theorem add_unnamed (key : List UInt8) (ns : List NoteN) (s : List UInt8) (k : Dig) (p : LgP) (w0 w : World) (L : List Res) (Ga : St w0 w (lgL p key ns ++ L)) (hs : JM s = false) :
  Calls Tryz.prog 10 #[.pointer (some ⟨p.g, 0, none⟩), .string (GZ s), k.v] w (AddEnd key ns s k p w0 L) := by
 have HN := Gg (fun w => by have := JW s w; rw [hs] at this; exact this)
 have HE := Gg (show Kk ns s = 1 by unfold Kk; rw [hs]; rfl)
 generalize hres : lgL p key ns ++ L = R at *
 have HR := Gg hres
 clear hs hres
 go_enter Tryz.func10, Tryz.ntmps10
 go_upto_region 1 with (go_big_may; (refine Gm 5 rfl (Gw rfl) ?_; (try clear Gb); intro g5 W5 Gb; replace Ga := Ga.tr1 Gb))
 go_upto_region 2 with (go_big_may; (go_at_call 34; (try clear Gb); refine (HN.out _).mono ?_; rintro e Wk1 ⟨rfl, Gb⟩; replace Ga := Ga.keep Gb))
 go_wp2_with (fail)
 go_ret2
 refine .inr ⟨by rw [HE.out]; decide, by rw [HE.out]; rfl, ?_⟩
 rw [HR.out]
 exact Ga.tail
theorem add_full1 (key : List UInt8) (ns : List NoteN) (s : List UInt8) (k : Dig) (p : LgP) (w0 w : World) (L : List Res) (Ga : St w0 w (lgL p key ns ++ L)) (hm : MapsOf ns p.nm p.am) (hs : JM s = true) (hf : 256 ≤ ns.length) :
  Calls Tryz.prog 10 #[.pointer (some ⟨p.g, 0, none⟩), .string (GZ s), k.v] w (AddEnd key ns s k p w0 L) := by
 have HN := Gg (fun w => by have := JW s w; rw [hs] at this; exact this)
 have HE := Gg (show Kk ns s = 4 by unfold Kk; rw [if_pos hs, if_pos (.inl hf)])
 have HO := Gg hm.ksO
 have HD := Gg hm.nd
 have HS := Gg (sV_ok hs)
 have hf2 : (256 : Int) ≤ (ns.length : Int) := by omega
 simp only [lgL, Gc, Gd] at Ga
 obtain ⟨g, m, c, lc, Mn, Ma, A, O, nm, am⟩ := p
 simp only at *
 cases hr : JQ s nm with
 | none =>
  have HL := Gg hr
  clear hs hf hm hr
  go_enter Tryz.func10, Tryz.ntmps10
  go_upto_region 1 with (go_big_may; (refine Gm 5 rfl (Gw rfl) ?_; (try clear Gb); intro g5 W5 Gb; replace Ga := Ga.tr1 Gb))
  go_upto_region 3 with (go_big_may; (go_at_call 34; (try clear Gb); refine (HN.out _).mono ?_; rintro e Wk2 ⟨rfl, Gb⟩; replace Ga := Ga.keep Gb))
  go_upto_region 4 with (go_big_may; first | (refine Qb (fk := sV) (fv := lsV) (y := s) (l := nm) (d := some 26) rfl rfl rfl Kz uz77 Hi (Gw rfl) (Gw rfl) NK HO.out HD.out HS.out (Ga.obj 4 rfl) HL.out ?_) | (refine Gj 24 rfl (by rfl) uz77 rfl (Gy (Ga.get 1 rfl) KY) ?_) | (refine Gk 8 rfl Hi ?_; (try clear Gb); intro g8 W8 Gb; replace Ga := Ga.tr1 Gb) | ((refine Gr 8 27 Ga rfl (by rfl) (Gw rfl) (MH _ _ _ _ _) Hi (by rfl) 0 rfl (by rfl) ?_; clear Ga; intro WS10 Ga; simp only [Ge, Gf] at Ga)))
  go_upto_region 5 with (first | (with_reducible refine GI (t := 36) rfl (by kernel_rfl) ?_) | (with_reducible refine GI (t := 37) rfl (by kernel_rfl) ?_) | (with_reducible refine GI (t := 38) rfl (by kernel_rfl) ?_) | (with_reducible refine GI (t := 39) rfl (by kernel_rfl) ?_) | (with_reducible refine GI (t := 40) rfl (by kernel_rfl) ?_) | (with_reducible refine GI (t := 41) rfl (by kernel_rfl) ?_) | (with_reducible refine GI (t := 42) rfl (by kernel_rfl) ?_) | (with_reducible refine GI (t := 43) rfl (by kernel_rfl) ?_) | (with_reducible refine GI (t := 44) rfl (by kernel_rfl) ?_) | (with_reducible refine GI (t := 45) rfl (by kernel_rfl) ?_) | (go_big_may; (refine Gj 32 rfl (by rfl) uz44 rfl (Gy (Ga.get 2 rfl) KH) ?_)))
  go_wp2_with (fail)
  go_ret2
  refine .inr ⟨by rw [HE.out]; decide, by rw [HE.out]; rfl, ?_⟩
  simp only [lgL, Gc, Gd]
  exact Ga.tail.tail
 | some x =>
  have HL := Gg hr
  obtain ⟨⟨a1, a2, a3⟩, a4, a5⟩ := x
  clear hs hf hm hr
  go_enter Tryz.func10, Tryz.ntmps10
  go_upto_region 1 with (go_big_may; (refine Gm 5 rfl (Gw rfl) ?_; (try clear Gb); intro g5 W5 Gb; replace Ga := Ga.tr1 Gb))
  go_upto_region 3 with (go_big_may; (go_at_call 34; (try clear Gb); refine (HN.out _).mono ?_; rintro e Wk3 ⟨rfl, Gb⟩; replace Ga := Ga.keep Gb))
  go_upto_region 4 with (go_big_may; first | (refine PE (fk := sV) (fv := lsV) (y := s) (l := nm) (d := some 26) rfl rfl rfl Kz uz77 Hi (Gw rfl) (Gw rfl) NK HO.out HD.out HS.out (Ga.obj 4 rfl) HL.out ?_) | (refine Gj 24 rfl (by rfl) uz77 rfl (Gy (Ga.get 1 rfl) KY) ?_) | (refine Gk 8 rfl Hi ?_; (try clear Gb); intro g8 W8 Gb; replace Ga := Ga.tr1 Gb) | ((refine Gr 8 27 Ga rfl (by rfl) (Gw rfl) (MH _ _ _ _ _) Hi (M1 _ _ _ _ _) 0 rfl (by rfl) ?_; clear Ga; intro WS10 Ga; simp only [Ge, Gf] at Ga)))
  go_upto_region 5 with (first | (with_reducible refine GI (t := 36) rfl (by kernel_rfl) ?_) | (with_reducible refine GI (t := 37) rfl (by kernel_rfl) ?_) | (with_reducible refine GI (t := 38) rfl (by kernel_rfl) ?_) | (with_reducible refine GI (t := 39) rfl (by kernel_rfl) ?_) | (with_reducible refine GI (t := 40) rfl (by kernel_rfl) ?_) | (with_reducible refine GI (t := 41) rfl (by kernel_rfl) ?_) | (with_reducible refine GI (t := 42) rfl (by kernel_rfl) ?_) | (with_reducible refine GI (t := 43) rfl (by kernel_rfl) ?_) | (with_reducible refine GI (t := 44) rfl (by kernel_rfl) ?_) | (with_reducible refine GI (t := 45) rfl (by kernel_rfl) ?_) | (go_big_may; (refine Gj 32 rfl (by rfl) uz44 rfl (Gy (Ga.get 2 rfl) KH) ?_)))
  go_wp2_with (fail)
  go_ret2
  refine .inr ⟨by rw [HE.out]; decide, by rw [HE.out]; rfl, ?_⟩
  simp only [lgL, Gc, Gd]
  exact Ga.tail.tail
end
section
open Go.RowKit
theorem add_full2 (key : List UInt8) (ns : List NoteN) (s : List UInt8) (k : Dig) (p : LgP) (w0 w : World) (L : List Res) (Ga : St w0 w (lgL p key ns ++ L)) (hm : MapsOf ns p.nm p.am) (hs : JM s = true) (hf : ¬ 256 ≤ ns.length) (hn : Ho ns s = none) (hc : 64 ≤ Kg ns) :
  Calls Tryz.prog 10 #[.pointer (some ⟨p.g, 0, none⟩), .string (GZ s), k.v] w (AddEnd key ns s k p w0 L) := by
 have HN := Gg (fun w => by have := JW s w; rw [hs] at this; exact this)
 have HE := Gg (show Kk ns s = 4 by unfold Kk; rw [if_pos hs, if_pos (.inr ⟨hn, hc⟩)])
 have HO := Gg hm.ksO
 have HD := Gg hm.nd
 have HS := Gg (sV_ok hs)
 have hf2 : ¬ (256 : Int) ≤ (ns.length : Int) := by omega
 have hr : JQ s p.nm = none := by rw [hm.look, Mk, hn]; rfl
 have hcc : (64 : Int) ≤ (p.nm.length : Int) := by rw [hm.len]; omega
 simp only [lgL, Gc, Gd] at Ga
 obtain ⟨g, m, c, lc, Mn, Ma, A, O, nm, am⟩ := p
 simp only at *
 have HL := Gg hr
 clear hs hf hm hr hn hc
 go_enter Tryz.func10, Tryz.ntmps10
 go_upto_region 1 with (go_big_may; (refine Gm 5 rfl (Gw rfl) ?_; (try clear Gb); intro g5 W5 Gb; replace Ga := Ga.tr1 Gb))
 go_upto_region 3 with (go_big_may; (go_at_call 34; (try clear Gb); refine (HN.out _).mono ?_; rintro e Wk1 ⟨rfl, Gb⟩; replace Ga := Ga.keep Gb))
 go_upto_region 4 with (go_big_may; first | (refine Qb (fk := sV) (fv := lsV) (y := s) (l := nm) (d := some 26) rfl rfl rfl Kz uz77 Hi (Gw rfl) (Gw rfl) NK HO.out HD.out HS.out (Ga.obj 4 rfl) HL.out ?_) | (refine Gj 24 rfl (by rfl) uz77 rfl (Gy (Ga.get 1 rfl) KY) ?_) | (refine Gk 8 rfl Hi ?_; (try clear Gb); intro g8 W8 Gb; replace Ga := Ga.tr1 Gb) | ((refine Gr 8 27 Ga rfl (by rfl) (Gw rfl) (MH _ _ _ _ _) Hi (by rfl) 0 rfl (by rfl) ?_; clear Ga; intro WS10 Ga; simp only [Ge, Gf] at Ga)))
 go_upto_region 5 with (go_big_may; first | (refine L_lenM (fk := sV) (fv := lsV) (l := nm) (d := some 43) rfl rfl rfl uz77 (Gw rfl) (Ga.obj 5 rfl) ?_) | (refine Gj 32 rfl (by rfl) uz44 rfl (Gy (Ga.get 2 rfl) KH) ?_) | (refine Gj 42 rfl (by rfl) uz77 rfl (Gy (Ga.get 2 rfl) KY) ?_))
 go_wp2_with (fail)
 go_ret2
 refine .inr ⟨by rw [HE.out]; decide, by rw [HE.out]; rfl, ?_⟩
 simp only [lgL, Gc, Gd]
 exact Ga.tail.tail
theorem add_twice (key : List UInt8) (ns : List NoteN) (s : List UInt8) (k : Dig) (p : LgP) (w0 w : World) (L : List Res) (hT : Tb w0) (Ga : St w0 w (lgL p key ns ++ L)) (hm : MapsOf ns p.nm p.am) (hs : JM s = true) (hf : ¬ 256 ≤ ns.length) (hc : ¬ (Ho ns s = none ∧ 64 ≤ Kg ns)) (ht : MM ns s = true) :
  Calls Tryz.prog 10 #[.pointer (some ⟨p.g, 0, none⟩), .string (GZ s), k.v] w (AddEnd key ns s k p w0 L) := by
 have HT := Gg hT
 have HN := Gg (fun w => by have := JW s w; rw [hs] at this; exact this)
 have HE := Gg (show Kk ns s = 7 by unfold Kk; rw [if_pos hs, if_neg (not_or.2 ⟨hf, hc⟩), if_pos ht])
 have HI := Gg (fun (w' : World) (h : Tb w') => M6 s w' h (by have := J0 hs; omega))
 have HO := Gg hm.ksO
 have HD := Gg hm.nd
 have HOA := Gg hm.ksOA
 have HDA := Gg hm.ndA
 have HS := Gg (sV_ok hs)
 have HSA := Gg (kInt_ok (n := Jf s) (by have := Mo s; omega))
 obtain ⟨t, ht1, ht2⟩ := (hm.taken s).1 ht
 have HL2 := Gg ht1
 have HNE := Gg (show (!decide (t = s)) = true by rw [decide_eq_false ht2]; rfl)
 have hf2 : ¬ (256 : Int) ≤ (ns.length : Int) := by omega
 have hlen := hm.len
 have hlk := hm.look s
 simp only [lgL, Gc, Gd] at Ga
 obtain ⟨g, m, c, lc, Mn, Ma, A, O, nm, am⟩ := p
 simp only at *
 generalize Jf s = ix at *
 cases hr : JQ s nm with
 | none =>
  have hcc : ¬ (64 : Int) ≤ (nm.length : Int) := by
   have h1 : Ho ns s = none := by
    have h2 := MT ns s
    rw [← hlk, hr] at h2
    cases h3 : Ho ns s with
    | none => rfl
    | some j => rw [h3] at h2; cases h2
   have h4 : ¬ 64 ≤ Kg ns := fun h => hc ⟨h1, h⟩
   rw [hlen]
   omega
  have HL := Gg hr
  clear hT hs hf hm hr hc ht ht1 ht2 hlk hlen
  go_enter Tryz.func10, Tryz.ntmps10
  go_upto_region 1 with (go_big_may; (refine Gm 5 rfl (Gw rfl) ?_; (try clear Gb); intro g5 W5 Gb; replace Ga := Ga.tr1 Gb))
  go_upto_region 3 with (go_big_may; (go_at_call 34; (try clear Gb); refine (HN.out _).mono ?_; rintro e Wk2 ⟨rfl, Gb⟩; replace Ga := Ga.keep Gb))
  go_upto_region 4 with (go_big_may; first | (refine Qb (fk := sV) (fv := lsV) (y := s) (l := nm) (d := some 26) rfl rfl rfl Kz uz77 Hi (Gw rfl) (Gw rfl) NK HO.out HD.out HS.out (Ga.obj 4 rfl) HL.out ?_) | (refine Gj 24 rfl (by rfl) uz77 rfl (Gy (Ga.get 1 rfl) KY) ?_) | (refine Gk 8 rfl Hi ?_; (try clear Gb); intro g8 W8 Gb; replace Ga := Ga.tr1 Gb) | ((refine Gr 8 27 Ga rfl (by rfl) (Gw rfl) (MH _ _ _ _ _) Hi (by rfl) 0 rfl (by rfl) ?_; clear Ga; intro WS10 Ga; simp only [Ge, Gf] at Ga)))
  go_upto_region 6 with (go_big_may; first | (refine L_lenM (fk := sV) (fv := lsV) (l := nm) (d := some 43) rfl rfl rfl uz77 (Gw rfl) (Ga.obj 5 rfl) ?_) | (refine Gj 32 rfl (by rfl) uz44 rfl (Gy (Ga.get 2 rfl) KH) ?_) | (refine Gj 42 rfl (by rfl) uz77 rfl (Gy (Ga.get 2 rfl) KY) ?_))
  go_upto_region 7 with (go_big_may; (go_at_call 35; (try clear Gb); refine (HI.out _ (HT.out.of Ga)).mono ?_; rintro e Wk3 ⟨rfl, Gb⟩; replace Ga := Ga.keep Gb))
  go_upto_region 8 with (go_big_may; first | (refine PE (fk := M2) (fv := sV) (y := ix) (l := am) (d := some 56) rfl rfl rfl M7 uz78 M8 (Gw rfl) (Gw rfl) N1 HOA.out HDA.out HSA.out (Ga.obj 6 rfl) HL2.out ?_) | (refine Gj 54 rfl (by rfl) uz78 rfl (Gy (Ga.get 2 rfl) PR) ?_))
  go_upto_region 9 with (go_big_may; (refine MW (d := some 63) rfl rfl rfl MD uz9 (Gw rfl) (Gw rfl) ?_; (try rw [HNE.out])))
  go_wp2_with (fail)
  go_ret2
  refine .inr ⟨by rw [HE.out]; decide, by rw [HE.out]; rfl, ?_⟩
  simp only [lgL, Gc, Gd]
  exact Ga.tail.tail
 | some x =>
  have HL := Gg hr
  obtain ⟨⟨a1, a2, a3⟩, a4, a5⟩ := x
  clear hT hs hf hm hr hc ht ht1 ht2 hlk hlen
  go_enter Tryz.func10, Tryz.ntmps10
  go_upto_region 1 with (go_big_may; (refine Gm 5 rfl (Gw rfl) ?_; (try clear Gb); intro g5 W5 Gb; replace Ga := Ga.tr1 Gb))
  go_upto_region 3 with (go_big_may; (go_at_call 34; (try clear Gb); refine (HN.out _).mono ?_; rintro e Wk4 ⟨rfl, Gb⟩; replace Ga := Ga.keep Gb))
  go_upto_region 4 with (go_big_may; first | (refine PE (fk := sV) (fv := lsV) (y := s) (l := nm) (d := some 26) rfl rfl rfl Kz uz77 Hi (Gw rfl) (Gw rfl) NK HO.out HD.out HS.out (Ga.obj 4 rfl) HL.out ?_) | (refine Gj 24 rfl (by rfl) uz77 rfl (Gy (Ga.get 1 rfl) KY) ?_) | (refine Gk 8 rfl Hi ?_; (try clear Gb); intro g8 W8 Gb; replace Ga := Ga.tr1 Gb) | ((refine Gr 8 27 Ga rfl (by rfl) (Gw rfl) (MH _ _ _ _ _) Hi (M1 _ _ _ _ _) 0 rfl (by rfl) ?_; clear Ga; intro WS10 Ga; simp only [Ge, Gf] at Ga)))
  go_upto_region 6 with (first | (with_reducible refine GI (t := 39) rfl (by kernel_rfl) ?_) | (with_reducible refine GI (t := 40) rfl (by kernel_rfl) ?_) | (with_reducible refine GI (t := 41) rfl (by kernel_rfl) ?_) | (with_reducible refine GI (t := 42) rfl (by kernel_rfl) ?_) | (with_reducible refine GI (t := 43) rfl (by kernel_rfl) ?_) | (with_reducible refine GI (t := 44) rfl (by kernel_rfl) ?_) | (go_big_may; (refine Gj 32 rfl (by rfl) uz44 rfl (Gy (Ga.get 2 rfl) KH) ?_)))
  go_upto_region 7 with (go_big_may; (go_at_call 35; (try clear Gb); refine (HI.out _ (HT.out.of Ga)).mono ?_; rintro e Wk5 ⟨rfl, Gb⟩; replace Ga := Ga.keep Gb))
  go_upto_region 8 with (go_big_may; first | (refine PE (fk := M2) (fv := sV) (y := ix) (l := am) (d := some 56) rfl rfl rfl M7 uz78 M8 (Gw rfl) (Gw rfl) N1 HOA.out HDA.out HSA.out (Ga.obj 6 rfl) HL2.out ?_) | (refine Gj 54 rfl (by rfl) uz78 rfl (Gy (Ga.get 2 rfl) PR) ?_))
  go_upto_region 9 with (go_big_may; (refine MW (d := some 63) rfl rfl rfl MD uz9 (Gw rfl) (Gw rfl) ?_; (try rw [HNE.out])))
  go_wp2_with (fail)
  go_ret2
  refine .inr ⟨by rw [HE.out]; decide, by rw [HE.out]; rfl, ?_⟩
  simp only [lgL, Gc, Gd]
  exact Ga.tail.tail
end
section
open Go.RowKit
theorem lvN_snoc (ns : List NoteN) (n : NoteN) : GP (lvN ns) ++ (Jm n).arr.toList = GP (lvN (ns ++ [n])) := by simp [lvN, GP, Dig.toList]
theorem snoc_len (ns : List NoteN) (n : NoteN) : ((ns ++ [n]).length) = ns.length + 1 := by simp
theorem add_ok_nn (key : List UInt8) (ns : List NoteN) (s : List UInt8) (k : Dig) (p : LgP) (w0 w : World) (L : List Res) (hT : Tb w0) (Ga : St w0 w (lgL p key ns ++ L)) (hm : MapsOf ns p.nm p.am) (hl : Logged ns) (he : Kk ns s = 0) (hx : Mk ns s = none) (hi : JQ (Jf s) p.am = none) :
  Calls Tryz.prog 10 #[.pointer (some ⟨p.g, 0, none⟩), .string (GZ s), k.v] w (AddEnd key ns s k p w0 L) := by
 have HT := Gg hT
 obtain ⟨hs, hlen, hnc, hid⟩ := KI he
 have HN := Gg (fun w => by have := JW s w; rw [hs] at this; exact this)
 have HE := Gg he
 have HI := Gg (fun (w' : World) (h : Tb w') => M6 s w' h (by have := J0 hs; omega))
 have HO := Gg hm.ksO
 have HD := Gg hm.nd
 have HOA := Gg hm.ksOA
 have HDA := Gg hm.ndA
 have HS := Gg (sV_ok hs)
 have HSA := Gg (kInt_ok (n := Jf s) (by have := Mo s; omega))
 have hf2 : ¬ (256 : Int) ≤ (ns.length : Int) := by omega
 have HM := Gg (hm.add he k)
 have htl := hl.turn_le s
 have HLF := Gg (fun (w' : World) (h : Tb w') => leafOf_any (M0 ns s k) w' h (hl.new_ok hs k))
 have HLV := Gg (lvN_snoc ns (M0 ns s k))
 have hx1 : Ho ns s = none := by
  have h2 := MT ns s
  rw [hx] at h2
  cases h3 : Ho ns s with
  | none => rfl
  | some j => rw [h3] at h2; cases h2
 have htu : Ni ns s = 0 := by unfold Ni lastN?; rw [hx1]; rfl
 have HL := Gg (show JQ s p.nm = none by rw [hm.look]; exact hx)
 have hcc : ¬ (64 : Int) ≤ (p.nm.length : Int) := by have := hnc hx1; rw [hm.len]; omega
 have HL2 := Gg hi
 have HEQ := Gg (show (!decide (s = s)) = false by simp)
 simp only [lgL, Gc, Gd] at Ga
 obtain ⟨g, m, c, lc, Mn, Ma, A, O, nm, am⟩ := p
 simp only at *
 obtain ⟨n', hn'⟩ : ∃ n', n' = M0 ns s k := ⟨_, rfl⟩
 obtain ⟨df, hdf⟩ : ∃ df, df = Jm (M0 ns s k) := ⟨_, rfl⟩
 have HDF := Gg hdf
 have HNN := Gg hn'
 rw [← hn'] at HM hdf HLF HLV
 rw [← hdf] at HLF HLV HM
 have hn2 : (n'.name = s ∧ n'.key = k ∧ n'.turn = Ni ns s) := by rw [hn']; exact ⟨rfl, rfl, rfl⟩
 obtain ⟨q1, q2, q3⟩ := hn2
 rw [q1, q2, q3] at HLF
 obtain ⟨tt, htt⟩ : ∃ tt, tt = Ni ns s := ⟨_, rfl⟩
 rw [← htt] at HLF htl htu q3
 have hn3 : n' = ⟨s, k, tt⟩ := NoteN.ext' q1 q2 q3
 generalize Jf s = ix at *
 subst htu
 have hl256 : ns.length ≤ 256 := by omega
 clear hT hs hm hl he hx hi htl hdf hn' hid hnc hlen q1 q2 q3 hx1 htt
 subst hn3
 go_enter Tryz.func10, Tryz.ntmps10
 go_upto_region 1 with (go_big_may; (refine Gm 5 rfl (Gw rfl) ?_; (try clear Gb); intro g5 W5 Gb; replace Ga := Ga.tr1 Gb))
 go_upto_region 3 with (go_big_may; (go_at_call 34; (try clear Gb); refine (HN.out _).mono ?_; rintro e Wk1 ⟨rfl, Gb⟩; replace Ga := Ga.keep Gb))
 go_upto_region 4 with (go_big_may; first | (refine Qb (fk := sV) (fv := lsV) (y := s) (l := nm) (d := some 26) rfl rfl rfl Kz uz77 Hi (Gw rfl) (Gw rfl) NK HO.out HD.out HS.out (Ga.obj 4 rfl) HL.out ?_) | (refine Gj 24 rfl (by rfl) uz77 rfl (Gy (Ga.get 1 rfl) KY) ?_) | (refine Gk 8 rfl Hi ?_; (try clear Gb); intro g8 W8 Gb; replace Ga := Ga.tr1 Gb) | ((refine Gr 8 27 Ga rfl (by rfl) (Gw rfl) (MH _ _ _ _ _) Hi (by rfl) 0 rfl (by rfl) ?_; clear Ga; intro WS10 Ga; simp only [Ge, Gf] at Ga)))
 go_upto_region 6 with (go_big_may; first | (refine L_lenM (fk := sV) (fv := lsV) (l := nm) (d := some 43) rfl rfl rfl uz77 (Gw rfl) (Ga.obj 5 rfl) ?_) | (refine Gj 32 rfl (by rfl) uz44 rfl (Gy (Ga.get 2 rfl) KH) ?_) | (refine Gj 42 rfl (by rfl) uz77 rfl (Gy (Ga.get 2 rfl) KY) ?_))
 go_upto_region 7 with (go_big_may; (go_at_call 35; (try clear Gb); refine (HI.out _ (HT.out.of Ga)).mono ?_; rintro e Wk2 ⟨rfl, Gb⟩; replace Ga := Ga.keep Gb))
 go_upto_region 8 with (go_big_may; first | (refine Qb (fk := M2) (fv := sV) (y := ix) (l := am) (d := some 56) rfl rfl rfl M7 uz78 M8 (Gw rfl) (Gw rfl) N1 HOA.out HDA.out HSA.out (Ga.obj 6 rfl) HL2.out ?_) | (refine Gj 54 rfl (by rfl) uz78 rfl (Gy (Ga.get 2 rfl) PR) ?_))
 go_upto_region 10 with (first | (with_reducible refine GI (t := 61) rfl (by kernel_rfl) ?_) | (with_reducible refine GI (t := 62) rfl (by kernel_rfl) ?_) | (with_reducible refine GI (t := 63) rfl (by kernel_rfl) ?_))
 go_upto_region 11 with (go_big_may; first | (refine L_buildN (d := some 68) rfl rfl rfl (Gw rfl) (Gw rfl) ?_) | (refine Gl 67 rfl (by rfl) uz32 rfl Gv (Ga.get 1 rfl) (Dig.size _) ?_) | (refine Gk 13 rfl GD ?_; (try clear Gb); intro g13 W13 Gb; replace Ga := Ga.tr1 Gb) | ((refine Gr 13 68 Ga rfl (by rfl) (Gw rfl) (Hg _ _ _) GD (GN _ _ _) 0 rfl (by rfl) ?_; clear Ga; intro WS4 Ga; simp only [Ge, Gf] at Ga)))
 go_upto_region 13 with (go_big_may; fail)
 go_upto_region 14 with (go_big_may; first | (go_at_call 36; (try clear Gb); refine (HLF.out _ (HT.out.of Ga)).mono ?_; rintro e Wk3 ⟨rfl, Gb⟩; replace Ga := Ga.keep Gb) | (refine Gl 76 rfl (by rfl) uz34 rfl GD (Ga.get 0 rfl) (GN _ _ _) ?_) | (refine Gk 14 rfl Gv ?_; (try clear Gb); intro g14 W14 Gb; replace Ga := Ga.tr1 Gb) | ((refine Gr 14 78 Ga rfl (by rfl) (Gw rfl) (Dig.one _) Gv (Dig.size _) 0 rfl (by rfl) ?_; clear Ga; intro WS6 Ga; simp only [Ge, Gf] at Ga)))
 go_upto_region 16 with (go_big_may; fail)
 clear Gb
 refine GO [(0, 0), (1, 0), (2, 0), (3, 0), (4, 0), (5, 0), (6, 0), (7, 0), (8, 0), (9, 0), (10, 0), (11, 2), (12, 2), (13, 1)] (by kernel_rfl) (by kernel_rfl) ?_
 replace Ga := Ga.drew
 refine GG rfl rfl ?_; go_wp2_with fail
 refine GG rfl rfl ?_; go_wp2_with fail
 refine H8 rfl rfl (by kernel_rfl) ?_; go_wp2_with fail
 refine GG rfl rfl ?_; go_wp2_with (refine Gj 86 rfl (by rfl) uz77 rfl (Gy (Ga.get 4 rfl) KY) ?_)
 refine GG rfl rfl ?_; go_wp2_with fail
 refine GG rfl rfl ?_; go_wp2_with ((refine Gl 88 rfl (by rfl) uz34 rfl GD (Ga.get 1 rfl) (GN _ _ _) ?_))
 refine GG rfl rfl ?_; go_wp2_with fail
 refine GG rfl rfl ?_; go_wp2_with fail
 refine H8 rfl rfl (by kernel_rfl) ?_; go_wp2_with fail
 refine GG rfl rfl ?_; go_wp2_with (refine Gj 92 rfl (by rfl) uz44 rfl (Gy (Ga.get 4 rfl) KH) ?_)
 refine GG rfl rfl ?_; go_wp2_with (fail)
 refine GA rfl ?_; go_wp2_with ((refine Gl 94 rfl (by rfl) uz32 rfl Gv (Ga.get 0 rfl) (Dig.size _) ?_)); refine Gh ?_
 refine GA rfl ?_; go_wp2_with (refine L_buildL (d := some 95) rfl rfl rfl (Gw rfl) (Gw rfl) (Gw rfl) ?_); refine Gh ?_
 refine J6 rfl ?_; go_wp2_with (refine L_mapUpd (fk := sV) (fv := lsV) (l := nm) (u := s) (v := (⟨s, k, 0⟩, ns.length, df)) rfl rfl Ga rfl Kz uz77 (Gw rfl) (Gw rfl) (Gw rfl) NK HO.out HD.out HS.out 7 rfl ?_; clear Ga; intro WM Ga; simp only [Ge, Gf] at Ga)
 refine G5 ?_
 go_upto_region 18 with (go_big_may; first | (refine L_mapUpd (fk := M2) (fv := sV) (l := am) (u := ix) (v := s) rfl rfl Ga rfl M7 uz78 (Gw rfl) (Gw rfl) (Gw rfl) N1 HOA.out HDA.out HSA.out 8 rfl ?_; clear Ga; intro WN Ga; simp only [Ge, Gf] at Ga) | (refine Gj 99 rfl (by rfl) uz78 rfl (Gy (Ga.get 4 rfl) PR) ?_))
 refine Ht (.one 0 3 (.one 1 3 (.one 2 0 (.one 3 0 (.one 4 0 (.one 5 2 (.one 6 2 (.one 7 1 (.one 8 2 (.one 9 2 (.one 10 1 .nil))))))))))) (by kernel_rfl) (by kernel_rfl) ?_
 replace Ga := Ga.drew
 refine Jj rfl rfl ?_; go_wp2_with fail
 refine Jj rfl rfl ?_; go_wp2_with fail
 refine Kl rfl rfl ?_; go_wp2_with fail
 refine Pc rfl rfl (by kernel_rfl) ?_; go_wp2_with fail
 refine Kl rfl rfl ?_; go_wp2_with (refine Gj 106 rfl (by rfl) uz44 rfl (Gy (Ga.get 4 rfl) KH) ?_)
 refine G6 rfl ?_; go_wp2_with ((refine Gl 107 rfl (by rfl) uz32 rfl Gv (Ga.get 0 rfl) (Dig.size _) ?_)); refine Gh ?_
 refine G6 rfl ?_; go_wp2_with (refine Gq 108 rfl [_] (Kj (Gw rfl)) rfl uz44 Gv rfl (by (simp [Value.cells, Dig.size]; done)) (by decide) (by decide) ?_; (try clear Gb); intro g108 W108 Gb; replace Ga := Ga.tr1 Gb; simp only [List.flatMap_cons, List.flatMap_nil, List.append_nil, Value.cells, List.toList_toArray] at Ga); refine Gi Gb ?_
 refine JA rfl ?_; go_wp2_with (refine GY (d := some 109) rfl rfl Ga rfl (by rfl) (by rfl) uz44 Gv rfl (by decide) (by decide) 7 rfl (by rfl) (Ga.sl 0 rfl) (GX) (by omega) ?_; clear Ga; intro A109 c109 W109 Ga; simp only [Ge, Gf, List.nil_append, Nat.zero_add] at Ga)
 refine G6 rfl ?_; go_wp2_with fail; refine Gh ?_
 refine G6 rfl ?_; go_wp2_with fail; refine Gh ?_
 refine JA rfl ?_; go_wp2_with ((refine Gt 111 109 Ga rfl (by rfl) (Gw rfl) rfl JS 5 rfl (of_decide_eq_true rfl) ?_; clear Ga; intro WS10 Ga; simp only [Ge, Gf, lgArr_s1 _ _ _, HLV.out] at Ga))
 refine H5 ?_
 go_wp2_with (refine Gj 115 rfl (by rfl) uz44 rfl (Gy (Ga.get 5 rfl) KH) ?_)
 go_ret2
 refine .inl ⟨HE.out, ?_, ⟨g, m, c, c109, Mn, Ma, A, A109, PI s (⟨s, k, 0⟩, ns.length, df) nm, PI ix s am⟩, rfl, rfl, ?_, ?_⟩
 ·(rfl)
 ·rw [← HNN.out]
  exact HM.out
 ·simp only [lgL, Gc, Gd]
  rw [← HNN.out, snoc_len]
  exact Ga.tail.tail.tail.tail.tail
end
end Go.Proofs.YtaebeemnipafbaaGreatDoor
