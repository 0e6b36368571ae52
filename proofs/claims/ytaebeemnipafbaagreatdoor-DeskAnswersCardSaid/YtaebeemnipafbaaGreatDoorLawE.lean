/-
  Proved here: laws of stores into a slice that the call owns: the address of an element, one cell stored, an element of several cells stored. No condition on any program.
-/
import Derived.Test.YtaebeemnipafbaaGreatDoorLawB
import Derived.Test.YtaebeemnipafbaaGreatDoorSq
set_option linter.unusedSimpArgs false
set_option linter.unusedVariables false
set_option maxRecDepth 100000
set_option maxHeartbeats 200000000
namespace Go.Proofs.YtaebeemnipafbaaGreatDoor
open Go.RowKit
theorem rowIn_setAt {off n c s i : Nat} {cur : Array Value} {xs : List Value} (h : RowIn off n c s cur xs) (hi : i < n * s) (v : Value) : RowIn off n c s (cur.setIfInBounds (off + i) v) (xs.set i v) := by
 have hroom := h.room
 have hnc : n * s ≤ c * s := Nat.mul_le_mul_right _ h.nc
 refine ⟨by rw [List.length_set]; exact h.len, h.nc, h.cm, by simpa using hroom, fun j u hu => ?_⟩
 rw [List.getElem?_set] at hu
 rw [Array.getElem?_setIfInBounds]
 by_cases hij : i = j
 ·subst hij
  rw [if_pos rfl] at hu ⊢
  have := h.len
  rw [if_pos (by omega)] at hu
  rw [if_pos (by omega)]
  exact hu
 ·rw [if_neg hij] at hu
  rw [if_neg (by omega)]
  exact h.cells j u hu
theorem rowIn_putAt {off n c s i : Nat} {cur : Array Value} {xs vs : List Value} (h : RowIn off n c s cur xs) (hi : i + vs.length ≤ n * s) : RowIn off n c s (Jg cur (off + i) vs) (xs.take i ++ vs ++ xs.drop (i + vs.length)) := by
 have hroom := h.room
 have hlen := h.len
 have hnc : n * s ≤ c * s := Nat.mul_le_mul_right _ h.nc
 have hsz : (Jg cur (off + i) vs).size = cur.size := by
  simp only [Jg, List.size_toArray, List.length_append, List.length_take, List.length_drop, Array.length_toList]
  omega
 refine ⟨?_, h.nc, h.cm, by rw [hsz]; exact hroom, fun j u hu => ?_⟩
 ·simp only [List.length_append, List.length_take, List.length_drop]
  omega
 ·have hc := h.cells
  have hL : cur.toList.length = cur.size := Array.length_toList
  unfold Jg
  simp only [List.getElem?_toArray]
  rw [List.append_assoc] at hu ⊢
  by_cases h1 : j < i
  ·rw [List.getElem?_append_left (by rw [List.length_take]; omega), List.getElem?_take, if_pos h1] at hu
   rw [List.getElem?_append_left (by rw [List.length_take, hL]; omega), List.getElem?_take, if_pos (by omega)]
   simpa using hc j u hu
  ·rw [List.getElem?_append_right (by rw [List.length_take]; omega), List.length_take] at hu
   rw [List.getElem?_append_right (by rw [List.length_take, hL]; omega), List.length_take, hL]
   have e : off + j - min (off + i) cur.size = j - min i xs.length := by omega
   rw [e]
   by_cases h2 : j - min i xs.length < vs.length
   ·rw [List.getElem?_append_left h2] at hu ⊢
    exact hu
   ·rw [List.getElem?_append_right (by omega), List.getElem?_drop] at hu ⊢
    have e1 : i + vs.length + (j - min i xs.length - vs.length) = j := by omega
    have e2 : off + i + vs.length + (j - min i xs.length - vs.length) = off + j := by omega
    rw [e1] at hu
    rw [e2]
    simpa using hc j u hu
section
variable {P : Program} {ops : Array Oper} {rest : List Oper} {o : Oper} {a : Act} {W w0 : World} {Q : Exit → Act → World → Prop} {L : List Res} {d : Option Tmp}
theorem St.setRowCell (h : St w0 W L) (k : Nat) {g off n c e s : Nat} {xs : List Value} (hk : L[k]? = some (.row (some ⟨g, off, none⟩) n c e s xs)) {i : Nat} (hi : i < n * s) (v : Value) :
  (∃ cs t, W.heap[g]? = some (.cells cs t (0, 0)) ∧ off + i < cs.size) ∧ St w0 (W.setCell ⟨g, off + i, none⟩ v) (L.set k (.row (some ⟨g, off, none⟩) n c e s (xs.set i v))) := by
 rcases h.at_ k hk with ⟨h0, _⟩ | ⟨g', off', cur, he, hh, hr⟩
 ·cases h0
 ·obtain ⟨rfl, rfl⟩ : g = g' ∧ off = off' := by simpa using he
  have hroom := hr.room
  have hnc : n * s ≤ c * s := Nat.mul_le_mul_right _ hr.nc
  refine ⟨⟨cur, e, hh, by omega⟩, ?_⟩
  exact h.turnAt k hk rfl rfl rfl (by simp [World.setCell]) (fun k' _ hk' => heap_setCell_other W ⟨g, off + i, none⟩ k' v (fun e => hk' (by simp [Res.dom, e]))) (fun g' hg' => .inl hg')
   (.inr ⟨g, off, _, rfl, heap_setCell_same W g (off + i) cur e v hh, rowIn_setAt hr hi v⟩)
theorem St.setRowCells (h : St w0 W L) (k : Nat) {g off n c e s : Nat} {xs : List Value} (hk : L[k]? = some (.row (some ⟨g, off, none⟩) n c e s xs)) {i : Nat} {vs : List Value} (hi : i + vs.length ≤ n * s) :
  (∃ cs t, W.heap[g]? = some (.cells cs t (0, 0)) ∧ off + i + vs.length ≤ cs.size) ∧ St w0 (W.setCells g (off + i) vs) (L.set k (.row (some ⟨g, off, none⟩) n c e s (xs.take i ++ vs ++ xs.drop (i + vs.length)))) := by
 rcases h.at_ k hk with ⟨h0, _⟩ | ⟨g', off', cur, he, hh, hr⟩
 ·cases h0
 ·obtain ⟨rfl, rfl⟩ : g = g' ∧ off = off' := by simpa using he
  have hroom := hr.room
  have hnc : n * s ≤ c * s := Nat.mul_le_mul_right _ hr.nc
  obtain ⟨h1, h2, h3, h4⟩ := MP g vs (off + i) W
  refine ⟨⟨cur, e, hh, by omega⟩, ?_⟩
  exact h.turnAt k hk h1 h2 h3 (by omega) (fun k' _ hk' => Kp g vs (off + i) W k' (fun e => hk' (by simp [Res.dom, e]))) (fun g' hg' => .inl hg')
   (.inr ⟨g, off, _, rfl, MO g e vs (off + i) cur W hh (by omega), rowIn_putAt hr hi⟩)
theorem MZ (hd : o.dst = d) (hw : Region.wanted o (yielded ops a.tmps) = true) (Ga : St w0 W L) {T : TypeId} {x y : Operand} (ho : o.op = .indexAddr T x y) {A : Option Addr} {n c : Nat} (hx : a.eval x = .slice A n c) {kk : IntKind} {i : Int} (hy : a.eval y = .int kk i)
  {e : TypeId} (hu : P.underlying T = some (.slice e)) {z : Value} {s b : Nat} (he : GW P e z s b) (k : Nat) {c' e' n' : Nat} {xs : List Value} (hk : L[k]? = some (.row A n' c' e' s xs)) (hnn : n' = n) (h0 : 0 ≤ i) (h1 : i < (n : Int))
  (h : ∀ (g off : Nat), A = some ⟨g, off, none⟩ → wpList P ops Q rest (a.put d (.pointer (some ⟨g, off + i.toNat * s, none⟩))) W) : wpList P ops Q (o :: rest) a W := by
 subst hnn
 obtain ⟨g, off, rfl, hr⟩ := (Ga.sl k hk).at (i := i.toNat) (by omega)
 refine Js hd hw ?_ (h g off rfl)
 unfold execOp
 simp only [ho, hx, hy]
 simp [Instr.indexAt, asIntOf, run_underlying hu, he.run_size, h0, h1, Addr.add_mid]
theorem Mv (hd : o.dst = none) (hw : Region.wanted o (yielded ops a.tmps) = true) (Ga : St w0 W L) {T : TypeId} {x y : Operand} (ho : o.op = .store T x y) {g off i : Nat} (hx : a.eval x = .pointer (some ⟨g, off + i, none⟩)) {v : Value} (hy : a.eval y = v) (h1 : v.oneCell' = true)
  {z : Value} {b : Nat} (he : GW P T z 1 b) (k : Nat) {n c e s : Nat} {xs : List Value} (hk : L[k]? = some (.row (some ⟨g, off, none⟩) n c e s xs)) (hi : i < n * s)
  (h : ∀ W' : World, St w0 W' (L.set k (.row (some ⟨g, off, none⟩) n c e s (xs.set i v))) → wpList P ops Q rest a W') : wpList P ops Q (o :: rest) a W := by
 obtain ⟨⟨cs, t, hg, hlt⟩, h2⟩ := Ga.setRowCell k hk hi v
 exact L_skip hd hw (exec_store1 T x y ho hx hy h1 he.size hg hlt) (h _ h2)
theorem L_storeRM (hd : o.dst = none) (hw : Region.wanted o (yielded ops a.tmps) = true) (Ga : St w0 W L) {T : TypeId} {x y : Operand} (ho : o.op = .store T x y) {g off i : Nat} (hx : a.eval x = .pointer (some ⟨g, off + i, none⟩)) {cells : Array Value} (hy : a.eval y = .agg cells)
  (h1 : cells.all (·.oneCell') = true) {z : Value} {s b : Nat} (he : GW P T z s b) (hs : cells.size = s) (k : Nat) {n c e s' : Nat} {xs : List Value} (hk : L[k]? = some (.row (some ⟨g, off, none⟩) n c e s' xs)) (hi : i + s ≤ n * s')
  (h : ∀ W' : World, St w0 W' (L.set k (.row (some ⟨g, off, none⟩) n c e s' (xs.take i ++ cells.toList ++ xs.drop (i + s)))) → wpList P ops Q rest a W') : wpList P ops Q (o :: rest) a W := by
 subst hs
 obtain ⟨⟨cs, t, hg, hlt⟩, h2⟩ := Ga.setRowCells k hk (vs := cells.toList) (by simpa using hi)
 simp only [Array.length_toList] at hlt h2
 refine L_skip hd hw ?_ (h _ h2)
 unfold execOp
 simp only [ho, hx, hy]
 simp only [Instr.storeAt, Instr.sureAddr, Sem.run_bind, Sem.run_pure, Result.andThen_ok, run_storeVar_mid W g (off + i) T cells (Mq hg hlt) (by rw [he.size]) h1]
end
end Go.Proofs.YtaebeemnipafbaaGreatDoor
