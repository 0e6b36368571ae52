/-
  Proved here: heads of a log: their cells, how they are read and compared; the numbers of a head as bytes. No condition on any program.
-/
import Derived.Test.YtaebeemnipafbaaGreatDoorOpenH
import Derived.Test.YtaebeemnipafbaaGreatDoorLaw
import Derived.Test.YtaebeemnipafbaaGreatDoorLawE
import Derived.Test.YtaebeemnipafbaaGreatDoorEl
import Derived.Test.YtaebeemnipafbaaGreatDoorSq
set_option linter.unusedSimpArgs false
set_option linter.unusedVariables false
set_option maxRecDepth 100000
set_option maxHeartbeats 200000000
namespace Go.Proofs.YtaebeemnipafbaaGreatDoor
open Go.RowKit
def H9 (n : Int) (x y z : Dig) : Array Value := (hdCells n x y z).toArray
theorem GR (n : Int) (x y z : Dig) : (H9 n x y z).size = 97 := by simp [H9, length_hdCells]
theorem KQ (n : Int) (x y z : Dig) : (H9 n x y z).toList = .int .i64 n :: (x.arr.toList ++ (y.arr.toList ++ z.arr.toList)) := rfl
theorem GQ {n : Int} {x y z : Dig} : (H9 n x y z)[0]? = some (.int .i64 n) := rfl
theorem hdArr_one (n : Int) (x y z : Dig) : ∀ u ∈ (H9 n x y z).toList, u.oneCell' = true := by
 intro u hu
 rw [KQ] at hu
 simp only [List.mem_cons, List.mem_append, Dig.toList] at hu
 rcases hu with rfl | hu | hu | hu
 ·rfl
 all_goals exact GX u hu
theorem Jr (n : Int) (x y z : Dig) : (H9 n x y z).all (·.oneCell') = true := Array.all_eq_true_iff_forall_mem.2 fun u hu => hdArr_one n x y z u (Array.mem_toList_iff.2 hu)
theorem MS {W : World} {g t off : Nat} {cs : Array Value} {fr : Nat × Nat} (h : W.heap[g]? = some (.cells cs t fr)) {l : List Value} (hl : ∀ j v, l[j]? = some v → cs.toList[off + j]? = some v) : W.rangeAt g off l :=
 Jk h (fun j v hv => by rw [← Array.getElem?_toList]; exact hl j v hv)
theorem Hy {W : World} {g t : Nat} {n : Int} {x y z : Dig} {fr : Nat × Nat} (h : W.heap[g]? = some (.cells (H9 n x y z) t fr)) : W.rangeAt g 1 x.arr.toList :=
 MS h (fun j v hv => by
  have hj := (List.getElem?_eq_some_iff.1 hv).1
  rw [KQ, Nat.add_comm, List.getElem?_cons_succ, List.getElem?_append_left hj]
  exact hv)
theorem Jt {W : World} {g t : Nat} {n : Int} {x y z : Dig} {fr : Nat × Nat} (h : W.heap[g]? = some (.cells (H9 n x y z) t fr)) : W.rangeAt g 33 y.arr.toList :=
 MS h (fun j v hv => by
  have hj := (List.getElem?_eq_some_iff.1 hv).1
  have hx : x.arr.toList.length = 32 := by simp [Dig.size]
  rw [KQ, show 33 + j = (32 + j) + 1 by omega, List.getElem?_cons_succ, List.getElem?_append_right (by omega), hx, show 32 + j - 32 = j by omega, List.getElem?_append_left hj]
  exact hv)
theorem hdArr_tag {W : World} {g t : Nat} {n : Int} {x y z : Dig} {fr : Nat × Nat} (h : W.heap[g]? = some (.cells (H9 n x y z) t fr)) : W.rangeAt g 65 z.arr.toList :=
 MS h (fun j v hv => by
  have hx : x.arr.toList.length = 32 := by simp [Dig.size]
  have hy : y.arr.toList.length = 32 := by simp [Dig.size]
  rw [KQ, show 65 + j = (64 + j) + 1 by omega, List.getElem?_cons_succ, List.getElem?_append_right (by omega), hx, show 64 + j - 32 = 32 + j by omega, List.getElem?_append_right (by omega), hy, show 32 + j - 32 = j by omega]
  exact hv)
theorem J1 (n : Int) (x y z d : Dig) : Jg (H9 n x y z) 65 d.arr.toList = H9 n x y d := by
 have l : ∀ d : Dig, d.arr.toList.length = 32 := fun d => by simp [Dig.size]
 have e : (H9 n x y z).toList = (.int .i64 n :: (x.arr.toList ++ y.arr.toList)) ++ z.arr.toList := by rw [KQ]; simp
 have e' : (H9 n x y d).toList = (.int .i64 n :: (x.arr.toList ++ y.arr.toList)) ++ d.arr.toList := by rw [KQ]; simp
 have hl : (Value.int .i64 n :: (x.arr.toList ++ y.arr.toList)).length = 65 := by simp [l, Dig.size]
 unfold Jg
 apply Array.ext'
 rw [e, e', List.take_left' hl, List.drop_append, hl, List.drop_eq_nil_of_le (by rw [hl, l]; omega), List.drop_eq_nil_of_le (by rw [l, l]; omega)]
 simp
section
variable {P : Program} {ops : Array Oper} {rest : List Oper} {o : Oper} {a : Act} {W : World} {Q : Exit → Act → World → Prop} {d : Option Tmp}
theorem K7 (hd : o.dst = d) (hw : Region.wanted o (yielded ops a.tmps) = true) {T : TypeId} {x : Operand} (ho : o.op = .slice T x none none none) {g off : Nat} (hx : a.eval x = .pointer (some ⟨g, off, none⟩))
  {n : Nat} {e : TypeId} (hu : P.underlying T = some (.array n e)) {z : Value} {s b : Nat} (he : GW P e z s b) {cs : Array Value} (hg : W.rangeAt g off cs.toList) (hc : cs.size = n * s) (hn : n ≤ maxLen)
  (h : SlR W (some ⟨g, off, none⟩) n n s cs.toList → wpList P ops Q rest (a.put d (.slice (some ⟨g, off, none⟩) n n)) W) : wpList P ops Q (o :: rest) a W := by
 refine Js hd hw ?_ (h ⟨by simp [hc], Nat.le_refl _, hn, fun _ => ⟨g, off, rfl, hg⟩⟩)
 unfold execOp
 simp only [ho, hx]
 have hb : (Instr.sliceBounds false n n none none none).run P W = .ok (0, n, n) W := by simp [Instr.sliceBounds]
 simp [Instr.sliceAt, run_underlying hu, Instr.sureAddr, hb, he.run_size, Addr.add_mid]
theorem L_shrI (hd : o.dst = d) (hw : Region.wanted o (yielded ops a.tmps) = true) {t t' : TypeId} {x y : Operand} (ho : o.op = .binOp .shr t x y t') {k k' : IntKind} {m : Int} {c : Nat} (hx : a.eval x = .int k m) (hy : a.eval y = .int k' ((c : Nat) : Int)) (hc : c ≤ k.bits)
  (h : wpList P ops Q rest (a.put d (.int k (m / 2 ^ c))) W) : wpList P ops Q (o :: rest) a W := by
 refine Js hd hw ?_ h
 unfold execOp
 simp only [ho, hx, hy]
 have h1 : (eqGuard .shr t x y (.int k m) (.int k' (c : Int))).run P W = .ok () W := by simp [eqGuard]
 have h2 : (Go.binOp .shr t (.int k m) (.int k' (c : Int))).run P W = .ok (.int k (m / 2 ^ c)) W := by
  show (Op.shift .shr k m k' (c : Int)).run P W = _
  have hneg : ¬ (c : Int) < 0 := by omega
  have hm : min c k.bits = c := by omega
  simp only [Op.shift, hneg, if_false, Int.toNat_natCast, hm, Sem.run_pure]
  congr 2
  exact Int.fdiv_eq_ediv_of_nonneg _ (by exact Int.pow_nonneg (by omega))
 simp [h1, h2]
end
def unsN (n : Int) : Nat := (n % 18446744073709551616).toNat
def Nn (n : Int) (i : Nat) : UInt8 := UInt8.ofNat (unsN n / 2 ^ (8 * i))
theorem byteS_val (n : Int) (i : Nat) (h : i < 8) : IntKind.u8.wrap (n / 2 ^ (8 * i)) = ((Nn n i).toNat : Int) := by
 have h1 := Int.emod_nonneg n (show (18446744073709551616 : Int) ≠ 0 by decide)
 have hu : ((unsN n : Nat) : Int) = n % 18446744073709551616 := by unfold unsN; omega
 rw [Nn, UInt8.toNat_ofNat']
 show (n / 2 ^ (8 * i)) % 256 = _
 rcases (show i = 0 ∨ i = 1 ∨ i = 2 ∨ i = 3 ∨ i = 4 ∨ i = 5 ∨ i = 6 ∨ i = 7 by omega) with rfl | rfl | rfl | rfl | rfl | rfl | rfl | rfl <;> simp only [Nat.reduceMul, Int.reducePow, Nat.reducePow] <;> omega
section
variable {P : Program} {ops : Array Oper} {rest : List Oper} {o : Oper} {a : Act} {W : World} {Q : Exit → Act → World → Prop} {d : Option Tmp}
end
def sz4 (n : Int) : List UInt8 := [Nn n 3, Nn n 2, Nn n 1, Nn n 0]
theorem GS : GW Tryz.prog 41 (.agg (H9 0 GM GM GM)) 97 104 := by unfold GW; kernel_rfl
end Go.Proofs.YtaebeemnipafbaaGreatDoor
