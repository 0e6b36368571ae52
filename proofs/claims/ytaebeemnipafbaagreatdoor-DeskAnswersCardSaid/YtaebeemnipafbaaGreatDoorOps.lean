/-
  Proved here: what single operations do to what a call owns, at a plain region's list; append, slices, arrays. No condition on any program.
-/
import Derived.Test.YtaebeemnipafbaaGreatDoorMem
import Derived.Laws.IdiomCopy
import Derived.Laws.MakeOwn
set_option linter.unusedSimpArgs false
set_option linter.unusedVariables false
set_option maxRecDepth 100000
set_option maxHeartbeats 200000000
namespace Go.Proofs.YtaebeemnipafbaaGreatDoor
open Go.RowKit
def GW (P : Program) (e : TypeId) (z : Value) (s bytes : Nat) : Prop := (P.info? e).map (fun i => (i.zero, i.size, i.bytes)) = some (some z, s, bytes)
section
variable {P : Program}
theorem GW.parts {e : TypeId} {z : Value} {s b : Nat} (h : GW P e z s b) : ∃ i, P.info? e = some i ∧ i.zero = some z ∧ i.size = s ∧ i.bytes = b := info_parts h
theorem GW.size {e : TypeId} {z : Value} {s b : Nat} (h : GW P e z s b) : (P.info? e).map (·.size) = some s := by
 obtain ⟨i, hi, _, hs, _⟩ := h.parts
 simp [hi, hs]
theorem GW.run_zero {e : TypeId} {z : Value} {s b : Nat} (h : GW P e z s b) (W : World) : (zeroValue e).run P W = .ok z W := by
 obtain ⟨i, hi, hz, _, _⟩ := h.parts
 simp [zeroValue, typeInfo, hi, hz]
theorem GW.run_size {e : TypeId} {z : Value} {s b : Nat} (h : GW P e z s b) (W : World) : (sizeOf e).run P W = .ok s W := by
 obtain ⟨i, hi, _, hs, _⟩ := h.parts
 simp [sizeOf, typeInfo, hi, hs]
end
section
variable {P : Program} {ops : Array Oper} {rest : List Oper} {o : Oper} {a : Act} {W w0 : World} {Q : Exit → Act → World → Prop} {L : List Res}
theorem wpl_run (hgd : o.guard = none) {v : Value} {W' : World} (hr : (execOp a.eval o).run P W = .ok (.value v) W') (h : wpList P ops Q rest (a.put o.dst v) W') : wpList P ops Q (o :: rest) a W :=
 wpList_plain hgd fun _ hK => by
  unfold Oper.wp
  rw [hr]
  exact hK _ _ h
theorem wpl_run0 (hgd : o.guard = none) {W' : World} (hr : (execOp a.eval o).run P W = .ok .skip W') (h : wpList P ops Q rest (a.put o.dst undef) W') : wpList P ops Q (o :: rest) a W :=
 wpList_plain hgd fun _ hK => by
  unfold Oper.wp
  rw [hr]
  exact hK _ _ h
theorem GB (op : Op) (_ho : o.op = op) (h : wpList P ops Q (o :: rest) a W) : wpList P ops Q (o :: rest) a W := h
theorem exec_alloc (T : TypeId) (ho : o.op = .alloc T) {z : Value} (hz : (zeroValue T).run P W = .ok z W) :
  (execOp a.eval o).run P W = .ok (.value (.pointer (some ⟨W.heap.size, 0, none⟩))) (W.alloc (.cells z.cells T)) := by
 unfold execOp
 simp only [ho]
 simp [Instr.alloc, hz, newVar, newRow, newObj, Sem.run]
theorem exec_box (T : TypeId) (x : Operand) (ho : o.op = .box T x) :
  (execOp a.eval o).run P W = .ok (.value (.pointer (some ⟨W.heap.size, 0, none⟩))) (W.alloc (.cells (a.eval x).cells T)) := by
 unfold execOp
 simp only [ho]
 simp [Instr.box, newVar, newRow, newObj, Sem.run]
theorem wpl_alloc (hgd : o.guard = none) (Ga : St w0 W L) (T : TypeId) (ho : o.op = .alloc T) {z : Value} {s b : Nat} (he : GW P T z s b)
  (h : ∀ (g : Nat) (W' : World), St w0 W' (.blk g T z.cells :: L) → wpList P ops Q rest (a.put o.dst (.pointer (some ⟨g, 0, none⟩))) W') : wpList P ops Q (o :: rest) a W :=
 wpl_run hgd (exec_alloc T ho (he.run_zero W)) (h _ _ (Ga.alloc _ _))
theorem wpl_box (hgd : o.guard = none) (Ga : St w0 W L) (T : TypeId) (x : Operand) (ho : o.op = .box T x) {v : Value} (hx : a.eval x = v)
  (h : ∀ (g : Nat) (W' : World), St w0 W' (.blk g T v.cells :: L) → wpList P ops Q rest (a.put o.dst (.pointer (some ⟨g, 0, none⟩))) W') : wpList P ops Q (o :: rest) a W := by
 subst hx
 exact wpl_run hgd (exec_box T x ho) (h _ _ (Ga.alloc _ _))
theorem Pd (hgd : o.guard = none) (Ga : St w0 W L) (T : TypeId) (ho : o.op = .alloc T) {cs : Array Value} {s b : Nat} (he : GW P T (.agg cs) s b)
  (h : ∀ (g : Nat) (W' : World), St w0 W' (.blk g T cs :: L) → wpList P ops Q rest (a.put o.dst (.pointer (some ⟨g, 0, none⟩))) W') : wpList P ops Q (o :: rest) a W :=
 wpl_alloc hgd Ga T ho he h
theorem wpl_boxAgg (hgd : o.guard = none) (Ga : St w0 W L) (T : TypeId) (x : Operand) (ho : o.op = .box T x) {cs : Array Value} (hx : a.eval x = .agg cs)
  (h : ∀ (g : Nat) (W' : World), St w0 W' (.blk g T cs :: L) → wpList P ops Q rest (a.put o.dst (.pointer (some ⟨g, 0, none⟩))) W') : wpList P ops Q (o :: rest) a W :=
 wpl_box hgd Ga T x ho hx h
theorem exec_load1 (T : TypeId) (x : Operand) (ho : o.op = .load T x) {g i : Nat} (hx : a.eval x = .pointer (some ⟨g, i, none⟩)) {d : TypeDesc} (hu : P.underlying T = some d) (hd : d.isRow = false)
  {v : Value} (hc : W.cell? ⟨g, i, none⟩ = some v) :
  (execOp a.eval o).run P W = .ok (.value v) W := by
 have hagg : (isAgg T).run P W = .ok false W := by
  unfold isAgg
  rw [Sem.run_bind, run_underlying hu W]
  cases d <;> simp_all
 unfold execOp
 simp only [ho, hx]
 simp [Instr.loadAt, Instr.sureAddr, loadVar, hagg, load, Sem.run, hc]
theorem exec_loadN (T : TypeId) (x : Operand) (ho : o.op = .load T x) {b off : Nat} (hx : a.eval x = .pointer (some ⟨b, off, none⟩)) {d : TypeDesc} (hu : P.underlying T = some d) (hd : d.isRow = true)
  {cs : List Value} (hi : (P.info? T).map (·.size) = some cs.length) (hc : W.rangeAt b off cs) :
  (execOp a.eval o).run P W = .ok (.value (.agg cs.toArray)) W := by
 unfold execOp
 simp only [ho, hx]
 simp [Instr.loadAt, Instr.sureAddr, run_loadVar_mid W b off T cs d hc hu hd hi]
theorem exec_loadRow (T : TypeId) (x : Operand) (ho : o.op = .load T x) {g : Nat} (hx : a.eval x = .pointer (some ⟨g, 0, none⟩)) {d : TypeDesc} (hu : P.underlying T = some d) (hd : d.isRow = true)
  {t : TypeId} {cs : Array Value} {fr : Nat × Nat} (hi : (P.info? T).map (·.size) = some cs.size) (hg : W.heap[g]? = some (.cells cs t fr)) :
  (execOp a.eval o).run P W = .ok (.value (.agg cs)) W := by
 unfold execOp
 simp only [ho, hx]
 simp only [Instr.loadAt, Instr.sureAddr, Sem.run_bind, Sem.run_pure, Result.andThen_ok, run_loadVar_row W g t T cs fr d hg hu (by cases d <;> simp_all) hi]
theorem wpl_loadRow (hgd : o.guard = none) (T : TypeId) (x : Operand) (ho : o.op = .load T x) {g : Nat} (hx : a.eval x = .pointer (some ⟨g, 0, none⟩)) {d : TypeDesc} (hu : P.underlying T = some d) (hd : d.isRow = true)
  {t : TypeId} {cs : Array Value} {fr : Nat × Nat} (hi : (P.info? T).map (·.size) = some cs.size) (hg : W.heap[g]? = some (.cells cs t fr))
  (h : wpList P ops Q rest (a.put o.dst (.agg cs)) W) : wpList P ops Q (o :: rest) a W :=
 wpl_run hgd (exec_loadRow T x ho hx hu hd hi hg) h
theorem exec_store1 (T : TypeId) (x y : Operand) (ho : o.op = .store T x y) {g i : Nat} (hx : a.eval x = .pointer (some ⟨g, i, none⟩)) {v : Value} (hy : a.eval y = v) (h1 : v.oneCell' = true)
  (hi : (P.info? T).map (·.size) = some 1) {t : TypeId} {cs : Array Value} (hg : W.heap[g]? = some (.cells cs t (0, 0))) (hb : i < cs.size) :
  (execOp a.eval o).run P W = .ok .skip (W.setCell ⟨g, i, none⟩ v) := by
 have hc : W.cell? ⟨g, i, none⟩ = some cs[i] := by rw [cell_of_row W g i cs t _ hg]; simp [hb]
 have hf : W.frozen? ⟨g, i, none⟩ = false := frozen_of_row W g i cs t hg
 have hcell : v.cells = #[v] := by cases v <;> simp_all [Value.oneCell', Value.cells]
 have Ga : (store ⟨g, i, none⟩ v).run P W = .ok () (W.setCell ⟨g, i, none⟩ v) := by
  rw [run_store P W ⟨g, i, none⟩ v _ h1]
  simp [hc, hf]
 cases hq : P.info? T with
 | none => simp [hq] at hi
 | some j =>
  have hs : j.size = 1 := by simpa [hq] using hi
  unfold execOp
  simp only [ho, hx, hy]
  simp [Instr.storeAt, Instr.sureAddr, storeVar, sizeOf, typeInfo, hq, hs, hcell, storeCells, Addr.add, Ga]
theorem exec_storeRow (T : TypeId) (x y : Operand) (ho : o.op = .store T x y) {g : Nat} (hx : a.eval x = .pointer (some ⟨g, 0, none⟩)) {cells : Array Value} (hy : a.eval y = .agg cells)
  (h1 : cells.all (·.oneCell') = true) (hi : (P.info? T).map (·.size) = some cells.size) {t : TypeId} {old : Array Value} (hg : W.heap[g]? = some (.cells old t (0, 0))) (ho' : old.size = cells.size) :
  (execOp a.eval o).run P W = .ok .skip (W.setRow g cells) := by
 unfold execOp
 simp only [ho, hx, hy]
 simp only [Instr.storeAt, Instr.sureAddr, Sem.run_bind, Sem.run_pure, Result.andThen_ok, run_storeVar_row W g t T old cells hg hi ho' h1]
theorem wpl_store1 (hgd : o.guard = none) (Ga : St w0 W L) (T : TypeId) (x y : Operand) (ho : o.op = .store T x y) {g i : Nat} (hx : a.eval x = .pointer (some ⟨g, i, none⟩)) {v : Value} (hy : a.eval y = v) (h1 : v.oneCell' = true)
  (hi : (P.info? T).map (·.size) = some 1) (n : Nat) {t : TypeId} {cs : Array Value} (hn : L[n]? = some (.blk g t cs)) (hb : i < cs.size)
  (h : ∀ W' : World, St w0 W' (L.set n (.blk g t (cs.setIfInBounds i v))) → wpList P ops Q rest (a.put o.dst undef) W') : wpList P ops Q (o :: rest) a W :=
 wpl_run0 hgd (exec_store1 T x y ho hx hy h1 hi (Ga.get n hn) hb) (h _ (Ga.setCell n hn i v))
theorem Pe (hgd : o.guard = none) (Ga : St w0 W L) (T : TypeId) (x y : Operand) (ho : o.op = .store T x y) {g : Nat} (hx : a.eval x = .pointer (some ⟨g, 0, none⟩)) {cells : Array Value} (hy : a.eval y = .agg cells)
  (h1 : cells.all (·.oneCell') = true) (hi : (P.info? T).map (·.size) = some cells.size) (n : Nat) {t : TypeId} {cs : Array Value} (hn : L[n]? = some (.blk g t cs)) (ho' : cs.size = cells.size)
  (h : ∀ W' : World, St w0 W' (L.set n (.blk g t cells)) → wpList P ops Q rest (a.put o.dst undef) W') : wpList P ops Q (o :: rest) a W :=
 wpl_run0 hgd (exec_storeRow T x y ho hx hy h1 hi (Ga.get n hn) ho') (h _ (Ga.setRow n hn cells))
section
variable {C : World → Prop} {Qq : Act → Prop}
end
def Jg (cs : Array Value) (o : Nat) (vs : List Value) : Array Value := (cs.toList.take o ++ vs ++ cs.toList.drop (o + vs.length)).toArray
theorem putAt_cons (cs : Array Value) (o : Nat) (v : Value) (vs : List Value) (h : o + 1 + vs.length ≤ cs.size) : Jg (cs.setIfInBounds o v) (o + 1) vs = Jg cs o (v :: vs) := by
 unfold Jg
 congr 1
 apply List.ext_getElem?
 intro k
 simp only [Array.toList_setIfInBounds, List.getElem?_append, List.length_take, List.length_append, List.length_set, Array.length_toList, List.getElem?_take, List.getElem?_set, List.getElem?_drop, List.length_cons]
 have e1 : min (o + 1) cs.size = o + 1 := by omega
 have e2 : min o cs.size = o := by omega
 rw [e1, e2]
 by_cases hk : k < o
 ·simp [hk, show k < o + 1 by omega, show o ≠ k by omega, show k < o + (vs.length + 1) by omega, show k < o + 1 + vs.length by omega]
 ·by_cases hk2 : k = o
  ·subst hk2
   simp [show k < k + 1 + vs.length by omega, show k < k + (vs.length + 1) by omega, show k < cs.size by omega]
  ·by_cases hk3 : k < o + 1 + vs.length
   ·simp [show ¬ k < o + 1 by omega, hk, hk3, show k < o + (vs.length + 1) by omega, show k - o = (k - (o + 1)) + 1 by omega]
   ·simp [show ¬ k < o + (vs.length + 1) by omega, hk3]
    rw [show o + 1 + vs.length + (k - (o + 1 + vs.length)) = k by omega, show o + (vs.length + 1) + (k - (o + (vs.length + 1))) = k by omega]
    simp [show o ≠ k by omega]
theorem MO (g : Nat) (t : TypeId) : ∀ (vs : List Value) (o : Nat) (cs : Array Value) (w : World), w.heap[g]? = some (.cells cs t (0, 0)) → o + vs.length ≤ cs.size →
  (w.setCells g o vs).heap[g]? = some (.cells (Jg cs o vs) t (0, 0))
 | [], o, cs, w, hg, _ => by
  have : Jg cs o [] = cs := by
   unfold Jg
   simp
  rw [this]
  exact hg
 | v :: vs, o, cs, w, hg, hl => by
  simp only [List.length_cons] at hl
  rw [World.setCells, MO g t vs (o + 1) (cs.setIfInBounds o v) _ (heap_setCell_same w g o cs t v hg) (by simp; omega), putAt_cons cs o v vs (by omega)]
theorem Kp (g : Nat) : ∀ (vs : List Value) (o : Nat) (w : World) (k : Nat), k ≠ g → (w.setCells g o vs).heap[k]? = w.heap[k]?
 | [], _, _, _, _ => rfl
 | v :: vs, o, w, k, hk => by
  rw [World.setCells, Kp g vs (o + 1) _ k hk]
  exact heap_setCell_other w ⟨g, o, none⟩ k v hk
theorem MP (g : Nat) : ∀ (vs : List Value) (o : Nat) (w : World), (w.setCells g o vs).os = w.os ∧ (w.setCells g o vs).tape = w.tape ∧ (w.setCells g o vs).output = w.output ∧ (w.setCells g o vs).heap.size = w.heap.size
 | [], _, _ => ⟨rfl, rfl, rfl, rfl⟩
 | v :: vs, o, w => by
  have := MP g vs (o + 1) (w.setCell ⟨g, o, none⟩ v)
  rw [World.setCells]
  exact ⟨this.1, this.2.1, this.2.2.1, this.2.2.2.trans (by simp [World.setCell])⟩
theorem St.setCells (h : St w0 W L) (n : Nat) {g : Nat} {t : TypeId} {cs : Array Value} (hn : L[n]? = some (.blk g t cs)) (o : Nat) (vs : List Value) (hl : o + vs.length ≤ cs.size) :
  St w0 (W.setCells g o vs) (L.set n (.blk g t (Jg cs o vs))) := by
 obtain ⟨h1, h2, h3, h4⟩ := MP g vs o W
 exact h.turnAt n hn h1 h2 h3 (by omega) (fun k _ hk => Kp g vs o W k (fun e => hk (by simp [Res.dom, e]))) (fun g' hg' => .inl hg') (MO g t vs o cs W (h.get n hn) hl)
theorem Mq {g o n : Nat} {cs : Array Value} {t : TypeId} (hg : W.heap[g]? = some (.cells cs t (0, 0))) (h : o + n ≤ cs.size) : W.there g o n := fun j hj => by
 rw [cell_of_row W g _ cs t _ hg]
 exact ⟨by simp; omega, frozen_of_row W g _ cs t hg⟩
theorem Mr {b o : Nat} {xs : List Value} (h : W.rangeAt b o xs) : ∀ j v, xs[j]? = some v → W.cell? ((⟨b, o, none⟩ : Addr).add j) = some v := fun j v hv => by
 rw [Addr.add_mid]
 exact h j v hv
theorem rowIn_put {off n c s m : Nat} {cur : Array Value} {xs news : List Value} (h : RowIn off n c s cur xs) (hl : news.length = m * s) (hroom : n + m ≤ c) :
  RowIn off (n + m) c s (Jg cur (off + n * s) news) (xs ++ news) ∧ off + n * s + news.length ≤ cur.size := by
 have h1 : (n + m) * s ≤ c * s := Nat.mul_le_mul_right _ hroom
 have hr := h.room
 have hfit : off + n * s + news.length ≤ cur.size := by rw [hl]; rw [Nat.add_mul] at h1; omega
 have hsz : (Jg cur (off + n * s) news).size = cur.size := by
  unfold Jg
  simp only [List.size_toArray, List.length_append, List.length_take, List.length_drop, Array.length_toList]
  omega
 refine ⟨⟨by rw [List.length_append, h.len, hl, Nat.add_mul], hroom, h.cm, by rw [hsz]; exact hr, fun j v hv => ?_⟩, hfit⟩
 unfold Jg
 simp only [List.getElem?_toArray, List.getElem?_append, List.length_take, List.length_append, Array.length_toList, List.getElem?_take]
 have e2 : min (off + n * s) cur.size = off + n * s := by omega
 rw [e2]
 rw [List.getElem?_append] at hv
 have hxl := h.len
 by_cases hj : j < n * s
 ·rw [if_pos (by omega)] at hv
  have := h.cells j v hv
  simp [show off + j < off + n * s + news.length by omega, hj, this]
 ·rw [if_neg (by omega), hxl] at hv
  have hlt : j - n * s < news.length := (List.getElem?_eq_some_iff.1 hv).1
  simp [show off + j < off + n * s + news.length by omega, hj, show off + j - (off + n * s) = j - n * s by omega, hv]
theorem rowIn_new {n c s : Nat} {xs : List Value} {z : Array Value} (hl : xs.length = n * s) (hz : z.size = s) (hnc : n ≤ c) (hc : c ≤ maxLen) :
  RowIn 0 n c s (xs.toArray ++ Builtin.zeroCells z (c - n)) xs := by
 refine ⟨hl, hnc, hc, ?_, fun j v hv => ?_⟩
 ·simp only [Array.size_append, List.size_toArray, size_zeroCells, hz, hl, ← Nat.add_mul]
  have : n + (c - n) = c := by omega
  rw [this]; omega
 ·have hj : j < xs.length := (List.getElem?_eq_some_iff.1 hv).1
  simp [Array.getElem?_append, hj]
  exact (List.getElem?_eq_some_iff.1 hv).2
theorem run_append_st (Ga : St w0 W L) (k : Nat) {A : Option Addr} {n c e s : Nat} {xs : List Value} (hk : L[k]? = some (.row A n c e s xs)) {t ty : TypeId} (ht : P.underlying t = some (.slice e)) {z : Value} {b : Nat}
  (he : GW P e z s b) (hzs : z.cells.size = s) (hs : 0 < s) (hb0 : 0 < b) {B : Option Addr} {m d : Nat} {news : List Value} (hr : SlR W B m d s news) (h1 : ∀ u ∈ news, u.oneCell' = true) (hb : (n + m) * b ≤ 140737488355328) :
  ∃ A' c' W', (Builtin.append_ #[t, t] ty #[.slice A n c, .slice B m d]).run P W = .ok (.slice A' (n + m) c') W' ∧ St w0 W' (L.set k (.row A' (n + m) c' e s (xs ++ news))) := by
 obtain ⟨i, hi, hiz, his, hib⟩ := he.parts
 subst his
 subst hib
 have hnm : n + m ≤ 140737488355328 := Nat.le_trans (Nat.le_mul_of_pos_right _ hb0) hb
 have hmax : n + m ≤ maxLen := by simp only [maxLen]; omega
 have hlt : k < L.length := (List.getElem?_eq_some_iff.1 hk).1
 have hself : L.set k (.row A n c e i.size xs) = L := by
  apply List.ext_getElem?
  intro j
  by_cases hj : k = j
  ·subst hj; rw [List.getElem?_set_self hlt, hk]
  ·rw [List.getElem?_set_ne hj]
 -- a new block takes the row's place
 have place : ∀ (W1 : World) (cc : Nat), St w0 W1 L → n + m ≤ cc → cc ≤ maxLen → (xs ++ news).length = (n + m) * i.size →
   St w0 (W1.alloc (.cells ((xs ++ news).toArray ++ Builtin.zeroCells z.cells (cc - (n + m))) e)) (L.set k (.row (some ⟨W1.heap.size, 0, none⟩) (n + m) cc e i.size (xs ++ news))) := fun W1 cc h1 hcc hcm hl => by
  have h2 := h1.allocRow e (rowIn_new (n := n + m) (c := cc) (s := i.size) (z := z.cells) hl hzs hcc hcm)
  have h3 := h2.drop (L' := .row (some ⟨W1.heap.size, 0, none⟩) (n + m) cc e i.size (xs ++ news) :: L.eraseIdx k) ((List.eraseIdx_sublist L k).cons_cons _)
  exact h3.perm (perm_set _ L k hlt)
 have hln : news.length = m * i.size := hr.1
 rcases Ga.at_ k hk with ⟨rfl, rfl, rfl, rfl⟩ | ⟨g, off, cur, rfl, hg, hrow⟩
 ·rcases Nat.eq_zero_or_pos m with h0 | h0
  ·subst h0
   have hn : news = [] := List.eq_nil_of_length_eq_zero (by simpa using hln)
   subst hn
   refine ⟨none, 0, W, ?_, by simpa [hself] using Ga⟩
   cases B <;> simp [Builtin.append_, run_underlying ht, sizeOf, typeInfo, hi, Builtin.lenOf, Builtin.firstCells, loadCells, loadCellsFrom]
  ·obtain ⟨bb, oo, rfl, hra⟩ := hr.2.2.2 h0
   have hrun := run_append_nil (P := P) W t ty e i z ht hi hiz ⟨bb, oo, none⟩ m d news hln (Mr hra) h0 (by omega) (by simp only [Nat.zero_add] at hb; omega)
   have hge := grownCap_ge W m 0 e
   have hcm := grownCap_le_maxLen W m 0 e (by omega)
   have hp := place W.drew (grownCap W m 0 e) Ga.drew (by omega) hcm (by simpa using hln)
   refine ⟨_, _, _, ?_, hp⟩
   simpa using hrun
 ·have hlx := hrow.len
  have hlen : (xs ++ news).length = (n + m) * i.size := by rw [List.length_append, hlx, hln, Nat.add_mul]
  by_cases hroom : n + m ≤ c
  ·obtain ⟨hrow', hfit⟩ := rowIn_put hrow hln hroom
   have hf : (Builtin.firstCells i.size m (.slice B m d)).run P W = .ok news.toArray W := by
    rcases Nat.eq_zero_or_pos m with h0 | h0
    ·subst h0
     have hn : news = [] := List.eq_nil_of_length_eq_zero (by simpa using hln)
     subst hn
     cases B <;> simp [Builtin.firstCells, loadCells, loadCellsFrom]
    ·obtain ⟨bb, oo, rfl, hra⟩ := hr.2.2.2 h0
     exact run_firstCells_some (P := P) W i.size m ⟨bb, oo, none⟩ m d news hln (Mr hra)
   have hth := Mq (o := off + n * i.size) (n := news.length) hg hfit
   have hstore := run_storeCells_cells (P := P) g (off + n * i.size) news 0 W (fun j hj => by simpa using (hth j hj).1) (fun j hj => by simpa using (hth j hj).2) h1
   simp only [Nat.add_zero] at hstore
   refine ⟨some ⟨g, off, none⟩, c, W.setCells g (off + n * i.size) news, ?_, ?_⟩
   ·simp only [Builtin.append_]
    simp [run_underlying ht, sizeOf, typeInfo, hi, Builtin.lenOf, hroom, hf, Addr.add_mid, hstore]
   ·obtain ⟨e1, e2, e3, e4⟩ := MP g news (off + n * i.size) W
    exact Ga.turnAt k hk e1 e2 e3 (by omega) (fun q _ hq => Kp g news _ W q (fun e' => hq (by simp [Res.dom, e']))) (fun q hq => .inl hq)
     (.inr ⟨g, off, _, rfl, MO g e news _ cur W hg hfit, hrow'⟩)
  ·have hlo : ∀ j u, xs[j]? = some u → W.cell? ((⟨g, off, none⟩ : Addr).add j) = some u := Mr (Jk hg hrow.cells)
   have h0 : 0 < m := by
    have := hrow.nc
    omega
   obtain ⟨bb, oo, rfl, hra⟩ := hr.2.2.2 h0
   have hfitn := growslice_fits (need := n + m) (old := c) (bytes := i.bytes) (by omega) hb
   have hrun := run_append_grow (P := P) W t ty e i z ht hi hiz ⟨g, off, none⟩ n c xs hlx hlo ⟨bb, oo, none⟩ m d news hln (Mr hra) (by omega) (by omega) hfitn
   have hge := grownCap_ge W (n + m) c e
   have hcm := grownCap_le_maxLen W (n + m) c e hmax
   have hp := place W.drew (grownCap W (n + m) c e) Ga.drew hge hcm hlen
   refine ⟨_, _, _, ?_, hp⟩
   simpa using hrun
end
end Go.Proofs.YtaebeemnipafbaaGreatDoor
