/-
  Proved here: digests as lists of 32 bytes: their values, how they are indexed, cut and compared; bytes and words as values. No condition on any program.
-/
import Derived.Test.YtaebeemnipafbaaGreatDoorOps
import Derived.LaidEql
import Derived.Laws.BitsAllLaws
import Derived.Laws.BitsLemmas
import Derived.ChangeKeysEq
import Derived.Laws.StructEq
set_option linter.unusedSimpArgs false
set_option linter.unusedVariables false
set_option maxRecDepth 100000
set_option maxHeartbeats 200000000
namespace Go.Proofs.YtaebeemnipafbaaGreatDoor
open Go.RowKit
def JC (b : UInt8) : Value := .int .u8 (b.toNat : Int)
def GK (l : List UInt8) : List Value := l.map JC
def K5 (l : List UInt8) : Array Value := (GK l).toArray
theorem GX {l : List UInt8} : ∀ v ∈ GK l, v.oneCell' = true := fun v hv => by
 obtain ⟨b, _, rfl⟩ := List.mem_map.1 hv
 rfl
theorem G7 (l : List UInt8) : (GK l).length = l.length := by simp [GK]
theorem PK (l : List UInt8) : (K5 l).size = l.length := by simp [K5, GK]
theorem Hj (a b : List UInt8) : GK (a ++ b) = GK a ++ GK b := by simp [GK]
theorem getElem?_bytesL (l : List UInt8) (k : Nat) : (GK l)[k]? = l[k]?.map JC := by simp [GK]
theorem getElem?_bytesV (l : List UInt8) (k : Nat) (hk : k < l.length) : (K5 l)[k]? = some (.int .u8 ((l[k]'hk).toNat : Int)) := by simp [K5, GK, hk, JC]
theorem i64_toNat (a : Nat) (ha : a < 2 ^ 63) : (BitVec.ofInt 64 (a : Int)).toNat = a := by
 rw [BitVec.ofInt_natCast, BitVec.toNat_ofNat]
 exact Nat.mod_eq_of_lt (by omega)
theorem i64_mask (a m : Nat) (ha : a < 2 ^ 63) (hm : m < 2 ^ 63) : bits .and .i64 (a : Int) (m : Int) = ((a &&& m : Nat) : Int) := by
 have hlt : a &&& m < 2 ^ 63 := Nat.and_lt_two_pow _ hm
 show IntKind.i64.wrap ((BitVec.ofInt 64 (a : Int) &&& BitVec.ofInt 64 (m : Int)).toNat : Int) = _
 rw [BitVec.toNat_and, i64_toNat a ha, i64_toNat m hm, IntKind.wrap_i64]
 omega
structure Dig where
 l : List UInt8
 h : l.length = 32
theorem Dig.ext' {a b : Dig} (h : a.l = b.l) : a = b := by
 cases a; cases b; simp_all
def Dig.arr (d : Dig) : Array Value := K5 d.l
abbrev Dig.v (d : Dig) : Value := .agg d.arr
theorem Dig.size (d : Dig) : d.arr.size = 32 := by rw [Dig.arr, PK, d.h]
theorem Dig.one (d : Dig) : d.arr.all (·.oneCell') = true := by
 refine Array.all_eq_true_iff_forall_mem.2 (fun v hv => GX (l := d.l) v ?_)
 simpa [Dig.arr, K5] using hv
theorem Dig.get (d : Dig) (k : Nat) (hk : k < 32) : d.arr[k]? = some (.int .u8 ((d.l[k]'(by rw [d.h]; exact hk)).toNat : Int)) := getElem?_bytesV d.l k (by rw [d.h]; exact hk)
instance : DecidableEq Dig := fun a b => if h : a.l = b.l then isTrue (Dig.ext' h) else isFalse (fun e => h (by rw [e]))
section
variable {P : Program}
theorem run_isAgg_no {t : TypeId} {d : TypeDesc} (h : P.underlying t = some d) (hd : d.isRow = false) (w : World) : (isAgg t).run P w = .ok false w := by
 unfold isAgg
 rw [Sem.run_bind, run_underlying h w]
 cases d <;> simp_all
theorem run_index1 {t e n : Nat} {z : Value} {b : Nat} (h : P.underlying t = some (.array n e)) {d : TypeDesc} (he : P.underlying e = some d) (hd : d.isRow = false) (hi : GW P e z 1 b)
  {cs : Array Value} {k : Nat} (hk : k < n) {v : Value} (hv : cs[k]? = some v) (w : World) : (Instr.index t (.agg cs) (.int .i64 (k : Int))).run P w = .ok v w := by
 have h2 : (0 : Int) ≤ (k : Int) ∧ (k : Int) < (n : Int) := by omega
 simp [Instr.index, run_underlying h, asIntOf, hi.run_size, part, run_isAgg_no he hd, hv]
 omega
theorem exec_index1 {o : Oper} {a : Act} {W : World} {t e n : Nat} {z : Value} {b : Nat} (x y : Operand) (ho : o.op = .index t x y) (h : P.underlying t = some (.array n e)) {d : TypeDesc} (he : P.underlying e = some d) (hd : d.isRow = false) (hi : GW P e z 1 b)
  {cs : Array Value} (hx : a.eval x = .agg cs) {k : Nat} (hy : a.eval y = .int .i64 (k : Int)) (hk : k < n) {v : Value} (hv : cs[k]? = some v) :
  (execOp a.eval o).run P W = .ok (.value v) W := by
 unfold execOp
 simp only [ho, hx, hy]
 simp [run_index1 h he hd hi hk hv]
theorem wpl_index1 {ops : Array Oper} {rest : List Oper} {o : Oper} {a : Act} {W : World} {Q : Exit → Act → World → Prop} (hgd : o.guard = none) {t e n : Nat} {z : Value} {b : Nat} (x y : Operand) (ho : o.op = .index t x y) (h : P.underlying t = some (.array n e)) {d : TypeDesc} (he : P.underlying e = some d) (hd : d.isRow = false) (hi : GW P e z 1 b)
  {cs : Array Value} (hx : a.eval x = .agg cs) {k : Nat} (hy : a.eval y = .int .i64 (k : Int)) (hk : k < n) {v : Value} (hv : cs[k]? = some v)
  (hh : wpList P ops Q rest (a.put o.dst v) W) : wpList P ops Q (o :: rest) a W :=
 wpl_run hgd (exec_index1 x y ho h he hd hi hx hy hk hv) hh
theorem Nt {e : TypeId} {d : TypeDesc} (he : P.underlying e = some d) (hd : d.isRow = false) {cs : Array Value} {k : Nat} {v : Value} (hv : cs[k]? = some v) (w : World) : (part e cs k).run P w = .ok v w := by
 simp [part, run_isAgg_no he hd, hv]
theorem Nb (dd : Nat) {e : TypeId} (he : P.underlying e = some (.int .u8)) (a b : List UInt8) (w : World) : ∀ (n k : Nat), k + n = a.length → a.length = b.length →
  (Op.eqItems (dd + 1) e 1 (K5 a) (K5 b) (List.range' k n)).run P w = .ok (decide (a.drop k = b.drop k)) w
 | 0, k, hk, hl => by
  have h1 : a.drop k = [] := List.drop_eq_nil_of_le (by omega)
  have h2 : b.drop k = [] := List.drop_eq_nil_of_le (by omega)
  simp [Op.eqItems, h1, h2]
 | n + 1, k, hk, hl => by
  have ha : k < a.length := by omega
  have hb : k < b.length := by omega
  have ih := Nb dd he a b w n (k + 1) (by omega) hl
  have p1 := Nt (P := P) (d := .int .u8) he rfl (getElem?_bytesV a k ha) w
  have p2 := Nt (P := P) (d := .int .u8) he rfl (getElem?_bytesV b k hb) w
  have hlit : (Op.equalIn (dd + 1) e (.int .u8 ((a[k]'ha).toNat : Int)) (.int .u8 ((b[k]'hb).toNat : Int))).run P w = .ok (((a[k]'ha).toNat : Int) == ((b[k]'hb).toNat : Int)) w := by
   rw [run_equalIn_int w dd e .u8 .u8 _ _ he]
  rw [List.range'_succ]
  simp only [Op.eqItems, Sem.run_bind, Nat.mul_one, p1, p2, hlit, Result.andThen_ok]
  have e1 : a.drop k = a[k] :: a.drop (k + 1) := List.drop_eq_getElem_cons ha
  have e2 : b.drop k = b[k] :: b.drop (k + 1) := List.drop_eq_getElem_cons hb
  by_cases hab : a[k] = b[k]
  ·have hn : (((a[k]'ha).toNat : Int) == ((b[k]'hb).toNat : Int)) = true := by simp [hab]
   rw [hn]
   simp only [Bool.not_true, Bool.false_eq_true, if_false]
   have hiff : (a.drop k = b.drop k) ↔ (a.drop (k + 1) = b.drop (k + 1)) := by
    rw [e1, e2, hab]
    exact ⟨fun h => (List.cons.inj h).2, fun h => by rw [h]⟩
   rw [ih]
   simp only [hiff]
  ·have hn : (((a[k]'ha).toNat : Int) == ((b[k]'hb).toNat : Int)) = false := by
    refine beq_eq_false_iff_ne.2 (fun h => hab (UInt8.toNat_inj.1 (by omega)))
   have hne : ¬ (a.drop k = b.drop k) := by
    rw [e1, e2]
    intro h
    injection h with h _
    exact hab h
   rw [hn]
   simp [hne]
theorem run_equal_digs {t e : TypeId} {z : Value} {bb : Nat} (ht : P.underlying t = some (.array 32 e)) (he : P.underlying e = some (.int .u8)) (hi : GW P e z 1 bb) (a b : Dig) (w : World) :
  (Op.equalIn 10000 t (.agg a.arr) (.agg b.arr)).run P w = .ok (decide (a = b)) w := by
 obtain ⟨i, hii, _, hs, _⟩ := hi.parts
 have hc : P.cellsOf e = 1 := by simp [Program.cellsOf, hii, hs]
 rw [run_equalIn_array w 9999 a.arr b.arr ht hii, hc, List.range_eq_range']
 have := Nb (P := P) 9998 he a.l b.l w 32 0 (by rw [a.h]) (by rw [a.h, b.h])
 simp only [List.drop_zero] at this
 rw [Dig.arr, Dig.arr, this]
 congr 1
 by_cases h : a = b
 ·subst h; simp
 ·have : a.l ≠ b.l := fun e => h (Dig.ext' e)
  simp [h, this]
end
end Go.Proofs.YtaebeemnipafbaaGreatDoor
