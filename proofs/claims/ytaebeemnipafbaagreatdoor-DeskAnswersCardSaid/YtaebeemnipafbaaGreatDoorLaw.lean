/-
  Proved here: the laws of single operations as the walks of this seat take them: each names its slot; what is made is told by itself. No condition on any program.
-/
import Derived.Test.YtaebeemnipafbaaGreatDoorDig
import Derived.Test.YtaebeemnipafbaaGreatDoorDraw
set_option linter.unusedSimpArgs false
set_option linter.unusedVariables false
set_option maxRecDepth 100000
set_option maxHeartbeats 200000000
namespace Go.Proofs.YtaebeemnipafbaaGreatDoor
open Go.RowKit
section
variable {P : Program} {ops : Array Oper} {rest : List Oper} {o : Oper} {a : Act} {W w0 : World} {Q : Exit → Act → World → Prop} {L : List Res} {d : Option Tmp}
theorem Gw {a : Act} {t : Nat} {v : Value} (h : a.tmps.toList[t]? = some v) : a.eval (.tmp t) = v := by
 have h' : a.tmps[t]? = some v := by simpa using h
 simp [Act.eval, h']
theorem GT {a : Act} {v : Value} : a.eval (.const v) = v := rfl
theorem St.tail {w0 W : World} {r : Res} {L : List Res} (h : St w0 W (r :: L)) : St w0 W L := h.drop (List.sublist_cons_self r L)
theorem St.tailN {w0 W : World} {L : List Res} (h : St w0 W L) (n : Nat) : St w0 W (L.drop n) := h.drop (List.drop_sublist n L)
def Src (w0 : World) (L : List Res) (B : Option Addr) (m k s : Nat) (xs : List Value) : Prop := ∀ W, St w0 W L → SlR W B m k s xs
theorem Src.old {w0 : World} {B : Option Addr} {m k s : Nat} {xs : List Value} (hs : 0 < s) (h : SlR w0 B m k s xs) (L : List Res) : Src w0 L B m k s xs := fun _ hW => hW.old hs h
theorem Js (hd : o.dst = d) (hw : Region.wanted o (yielded ops a.tmps) = true) {v : Value} {W' : World} (hr : (execOp a.eval o).run P W = .ok (.value v) W') (h : wpList P ops Q rest (a.put d v) W') : wpList P ops Q (o :: rest) a W := by
 subst hd
 unfold wpList
 rw [if_pos hw]
 refine .inl ?_
 unfold Oper.wp
 rw [hr]
 exact h
theorem L_skip (hd : o.dst = none) (hw : Region.wanted o (yielded ops a.tmps) = true) {W' : World} (hr : (execOp a.eval o).run P W = .ok .skip W') (h : wpList P ops Q rest a W') : wpList P ops Q (o :: rest) a W := by
 have e : a.put o.dst undef = a := by rw [hd]; rfl
 unfold wpList
 rw [if_pos hw]
 refine .inl ?_
 unfold Oper.wp
 rw [hr]
 simp only [Oper.upon, e]
 exact h
theorem L_alloc (hd : o.dst = d) (hw : Region.wanted o (yielded ops a.tmps) = true) {T : TypeId} (ho : o.op = .alloc T) {z : Value} {s b : Nat} (he : GW P T z s b)
  (h : ∀ (g : Nat) (W' : World), St W W' [.blk g T z.cells] → wpList P ops Q rest (a.put d (.pointer (some ⟨g, 0, none⟩))) W') : wpList P ops Q (o :: rest) a W :=
 Js hd hw (exec_alloc T ho (he.run_zero W)) (h _ _ ((St.refl W).alloc _ _))
theorem GC (hd : o.dst = d) (hw : Region.wanted o (yielded ops a.tmps) = true) {T : TypeId} (ho : o.op = .alloc T) {cs : Array Value} {s b : Nat} (he : GW P T (.agg cs) s b)
  (h : ∀ (g : Nat) (W' : World), St W W' [.blk g T cs] → wpList P ops Q rest (a.put d (.pointer (some ⟨g, 0, none⟩))) W') : wpList P ops Q (o :: rest) a W :=
 L_alloc hd hw ho he h
theorem P1 (hd : o.dst = d) (hw : Region.wanted o (yielded ops a.tmps) = true) {T : TypeId} (ho : o.op = .alloc T) {z : Value} {s b : Nat} (he : GW P T z s b) (hz : z.oneCell' = true)
  (h : ∀ (g : Nat) (W' : World), St W W' [.blk g T #[z]] → wpList P ops Q rest (a.put d (.pointer (some ⟨g, 0, none⟩))) W') : wpList P ops Q (o :: rest) a W :=
 L_alloc hd hw ho he (by
  have : z.cells = #[z] := by cases z <;> simp_all [Value.oneCell', Value.cells]
  rw [this]; exact h)
theorem GV (hd : o.dst = d) (hw : Region.wanted o (yielded ops a.tmps) = true) {T : TypeId} {x : Operand} (ho : o.op = .box T x) {cs : Array Value} (hx : a.eval x = .agg cs)
  (h : ∀ (g : Nat) (W' : World), St W W' [.blk g T cs] → wpList P ops Q rest (a.put d (.pointer (some ⟨g, 0, none⟩))) W') : wpList P ops Q (o :: rest) a W :=
 Js hd hw (exec_box T x ho) (by rw [hx]; exact h _ _ ((St.refl W).alloc _ _))
theorem L_box1 (hd : o.dst = d) (hw : Region.wanted o (yielded ops a.tmps) = true) {T : TypeId} {x : Operand} (ho : o.op = .box T x) {v : Value} (hx : a.eval x = v) (hv : v.oneCell' = true)
  (h : ∀ (g : Nat) (W' : World), St W W' [.blk g T #[v]] → wpList P ops Q rest (a.put d (.pointer (some ⟨g, 0, none⟩))) W') : wpList P ops Q (o :: rest) a W :=
 Js hd hw (exec_box T x ho) (by
  have : v.cells = #[v] := by cases v <;> simp_all [Value.oneCell', Value.cells]
  rw [hx, this]; exact h _ _ ((St.refl W).alloc _ _))
theorem GJ (hd : o.dst = d) (hw : Region.wanted o (yielded ops a.tmps) = true) {T : TypeId} {x : Operand} (ho : o.op = .load T x) {g : Nat} (hx : a.eval x = .pointer (some ⟨g, 0, none⟩)) {td : TypeDesc} (hu : P.underlying T = some td) (hr : td.isRow = true)
  {z : Value} {s b : Nat} (he : GW P T z s b) {t : TypeId} {cs : Array Value} {fr : Nat × Nat} (hg : W.heap[g]? = some (.cells cs t fr)) (hs : cs.size = s)
  (h : wpList P ops Q rest (a.put d (.agg cs)) W) : wpList P ops Q (o :: rest) a W :=
 Js hd hw (exec_loadRow T x ho hx hu hr (by rw [he.size, hs]) hg) h
theorem GU (hd : o.dst = d) (hw : Region.wanted o (yielded ops a.tmps) = true) {T : TypeId} {x : Operand} (ho : o.op = .load T x) {g off : Nat} (hx : a.eval x = .pointer (some ⟨g, off, none⟩)) {td : TypeDesc} (hu : P.underlying T = some td) (hr : td.isRow = true)
  {z : Value} {s b : Nat} (he : GW P T z s b) {cs : Array Value} (hg : W.rangeAt g off cs.toList) (hs : cs.size = s)
  (h : wpList P ops Q rest (a.put d (.agg cs)) W) : wpList P ops Q (o :: rest) a W := by
 have := exec_loadN (P := P) (W := W) T x ho hx hu hr (cs := cs.toList) (by rw [he.size]; simp [hs]) hg
 rw [Array.toArray_toList] at this
 exact Js hd hw this h
theorem Gx (hd : o.dst = d) (hw : Region.wanted o (yielded ops a.tmps) = true) {T : TypeId} {x : Operand} (ho : o.op = .load T x) {g i : Nat} (hx : a.eval x = .pointer (some ⟨g, i, none⟩)) {td : TypeDesc} (hu : P.underlying T = some td) (hr : td.isRow = false)
  {v : Value} (hc : W.cell? ⟨g, i, none⟩ = some v) (h : wpList P ops Q rest (a.put d v) W) : wpList P ops Q (o :: rest) a W :=
 Js hd hw (exec_load1 T x ho hx hu hr hc) h
theorem Gy {g i : Nat} {t : TypeId} {cs : Array Value} {fr : Nat × Nat} {v : Value} (hg : W.heap[g]? = some (.cells cs t fr)) (hv : cs[i]? = some v) : W.cell? ⟨g, i, none⟩ = some v := by
 rw [cell_of_row W g i cs t fr hg]; exact hv
theorem L_index1 (hd : o.dst = d) (hw : Region.wanted o (yielded ops a.tmps) = true) {t e n : Nat} {x y : Operand} (ho : o.op = .index t x y) {z : Value} {b : Nat} (h : P.underlying t = some (.array n e)) {td : TypeDesc} (he : P.underlying e = some td) (hr : td.isRow = false) (hi : GW P e z 1 b)
  {cs : Array Value} (hx : a.eval x = .agg cs) {k : Nat} (hy : a.eval y = .int .i64 (k : Int)) (hk : k < n) {v : Value} (hv : cs[k]? = some v)
  (hh : wpList P ops Q rest (a.put d v) W) : wpList P ops Q (o :: rest) a W :=
 Js hd hw (exec_index1 x y ho h he hr hi hx hy hk hv) hh
theorem Jh (hd : o.dst = none) (hw : Region.wanted o (yielded ops a.tmps) = true) (Ga : St w0 W L) {T : TypeId} {x y : Operand} (ho : o.op = .store T x y) {g i : Nat} (hx : a.eval x = .pointer (some ⟨g, i, none⟩)) {v : Value} (hy : a.eval y = v) (h1 : v.oneCell' = true)
  {z : Value} {b : Nat} (he : GW P T z 1 b) (n : Nat) {t : TypeId} {cs : Array Value} (hn : L[n]? = some (.blk g t cs)) (hb : i < cs.size)
  (h : ∀ W' : World, St w0 W' (L.set n (.blk g t (cs.setIfInBounds i v))) → wpList P ops Q rest a W') : wpList P ops Q (o :: rest) a W :=
 L_skip hd hw (exec_store1 T x y ho hx hy h1 he.size (Ga.get n hn) hb) (h _ (Ga.setCell n hn i v))
theorem Gz (hd : o.dst = none) (hw : Region.wanted o (yielded ops a.tmps) = true) (Ga : St w0 W L) {T : TypeId} {x y : Operand} (ho : o.op = .store T x y) {g : Nat} (hx : a.eval x = .pointer (some ⟨g, 0, none⟩)) {cells : Array Value} (hy : a.eval y = .agg cells)
  (h1 : cells.all (·.oneCell') = true) {z : Value} {s b : Nat} (he : GW P T z s b) (hs : cells.size = s) (n : Nat) {t : TypeId} {cs : Array Value} (hn : L[n]? = some (.blk g t cs)) (ho' : cs.size = s)
  (h : ∀ W' : World, St w0 W' (L.set n (.blk g t cells)) → wpList P ops Q rest a W') : wpList P ops Q (o :: rest) a W :=
 L_skip hd hw (exec_storeRow T x y ho hx hy h1 (by rw [he.size, hs]) (Ga.get n hn) (by rw [ho', hs])) (h _ (Ga.setRow n hn cells))
theorem Kc (hd : o.dst = none) (hw : Region.wanted o (yielded ops a.tmps) = true) (Ga : St w0 W L) {T : TypeId} {x y : Operand} (ho : o.op = .store T x y) {g i : Nat} (hx : a.eval x = .pointer (some ⟨g, i, none⟩)) {cells : Array Value} (hy : a.eval y = .agg cells)
  (h1 : cells.all (·.oneCell') = true) {z : Value} {s b : Nat} (he : GW P T z s b) (hs : cells.size = s) (n : Nat) {t : TypeId} {cs : Array Value} (hn : L[n]? = some (.blk g t cs)) (hb : i + s ≤ cs.size)
  (h : ∀ W' : World, St w0 W' (L.set n (.blk g t (Jg cs i cells.toList))) → wpList P ops Q rest a W') : wpList P ops Q (o :: rest) a W := by
 refine L_skip hd hw ?_ (h _ (Ga.setCells n hn i cells.toList (by simp [hs]; exact hb)))
 unfold execOp
 simp only [ho, hx, hy]
 simp only [Instr.storeAt, Instr.sureAddr, Sem.run_bind, Sem.run_pure, Result.andThen_ok, run_storeVar_mid W g i T cells (Mq (Ga.get n hn) (by rw [hs]; exact hb)) (by rw [he.size, hs]) h1]
theorem SlR.at {A : Option Addr} {n c s : Nat} {xs : List Value} (h : SlR W A n c s xs) {i : Nat} (hi : i < n) : ∃ b off, A = some ⟨b, off, none⟩ ∧ W.rangeAt b (off + i * s) ((xs.drop (i * s)).take s) := by
 obtain ⟨_, _, _, hx⟩ := h
 obtain ⟨b, off, rfl, hr⟩ := hx (by omega)
 exact ⟨b, off, rfl, rangeAt_take (rangeAt_drop hr)⟩
theorem G9 (hd : o.dst = d) (hw : Region.wanted o (yielded ops a.tmps) = true) {T : TypeId} {x y : Operand} (ho : o.op = .indexAddr T x y) {A : Option Addr} {n c : Nat} (hx : a.eval x = .slice A n c) {k : IntKind} {i : Int} (hy : a.eval y = .int k i)
  {e : TypeId} (hu : P.underlying T = some (.slice e)) {z : Value} {s b : Nat} (he : GW P e z s b) {xs : List Value} (hs : SlR W A n c s xs) (h0 : 0 ≤ i) (h1 : i < (n : Int))
  (h : ∀ (g off : Nat), A = some ⟨g, off, none⟩ → W.rangeAt g (off + i.toNat * s) ((xs.drop (i.toNat * s)).take s) → wpList P ops Q rest (a.put d (.pointer (some ⟨g, off + i.toNat * s, none⟩))) W) : wpList P ops Q (o :: rest) a W := by
 obtain ⟨g, off, rfl, hr⟩ := hs.at (i := i.toNat) (by omega)
 refine Js hd hw ?_ (h g off rfl hr)
 unfold execOp
 simp only [ho, hx, hy]
 simp [Instr.indexAt, asIntOf, run_underlying hu, he.run_size, h0, h1, Addr.add_mid]
theorem SlR.cut {A : Option Addr} {n c s : Nat} {xs : List Value} (h : SlR W A n c s xs) (hs : 0 < s) {lo hi m : Nat} (h1 : lo ≤ hi) (h2 : hi ≤ n) (h3 : hi ≤ m) (h4 : m ≤ c) :
  SlR W (if m = lo then A else A.map (·.add (lo * s))) (hi - lo) (m - lo) s ((xs.drop (lo * s)).take ((hi - lo) * s)) := by
 obtain ⟨hl, hnc, hcm, hx⟩ := h
 refine ⟨?_, by omega, by omega, fun h0 => ?_⟩
 ·rw [List.length_take, List.length_drop, hl]
  have : (hi - lo) * s ≤ n * s - lo * s := by rw [← Nat.sub_mul]; exact Nat.mul_le_mul_right _ (by omega)
  omega
 ·obtain ⟨b, off, rfl, hr⟩ := hx (by omega)
  refine ⟨b, off + lo * s, ?_, rangeAt_take (rangeAt_drop hr)⟩
  rw [if_neg (by omega)]
  simp [Addr.add_mid]
theorem MB {v : Value} {k : IntKind} {i y : Nat} (hv : v = .int k (i : Int)) (hi : i ≤ y) (c : BoundsCode) : (Instr.sliceBound v y c).run P W = .ok i W := by
 subst hv
 have : (0 : Int) ≤ (i : Int) ∧ (i : Int) ≤ (y : Int) := by omega
 simp [Instr.sliceBound, asIntOf]
 omega
theorem run_cutS {T e : TypeId} (hu : P.underlying T = some (.slice e)) {z : Value} {s b : Nat} (he : GW P e z s b) {A : Option Addr} {n c : Nat} {l h m : Option Value} {lo hi mx : Nat}
  (hl : (l = none ∧ lo = 0) ∨ ∃ k v, l = some v ∧ v = .int k ((lo : Nat) : Int)) (hh : (h = none ∧ hi = n ∧ m = none) ∨ ∃ k v, h = some v ∧ v = .int k ((hi : Nat) : Int)) (hm : (m = none ∧ mx = c) ∨ ∃ k v, m = some v ∧ v = .int k ((mx : Nat) : Int))
  (h1 : lo ≤ hi) (h3 : hi ≤ mx) (h4 : mx ≤ c) :
  (Instr.sliceAt T (.slice A n c) l h m).run P W = .ok (.slice (if mx = lo then A else A.map (·.add (lo * s))) (hi - lo) (mx - lo)) W := by
 have hb : (Instr.sliceBounds true n c l h m).run P W = .ok (lo, hi, mx) W := by
  unfold Instr.sliceBounds
  rcases hm with ⟨rfl, rfl⟩ | ⟨km, vm, rfl, hvm⟩
  ·rcases hh with ⟨rfl, rfl, _⟩ | ⟨kh, vh, rfl, hvh⟩
   ·rcases hl with ⟨rfl, rfl⟩ | ⟨kl, vl, rfl, hvl⟩
    ·simp
    ·simp [MB hvl h1]
   ·rcases hl with ⟨rfl, rfl⟩ | ⟨kl, vl, rfl, hvl⟩
    ·simp [MB hvh h3]
    ·simp [MB hvh h3, MB hvl h1]
  ·rcases hh with ⟨_, _, hmm⟩ | ⟨kh, vh, rfl, hvh⟩
   ·cases hmm
   ·rcases hl with ⟨rfl, rfl⟩ | ⟨kl, vl, rfl, hvl⟩
    ·simp [MB hvm h4, MB hvh h3]
    ·simp [MB hvm h4, MB hvh h3, MB hvl h1]
 unfold Instr.sliceAt Instr.slice
 simp [run_underlying hu, hb, he.run_size]
theorem L_cutS (hd : o.dst = d) (hw : Region.wanted o (yielded ops a.tmps) = true) {T : TypeId} {x : Operand} {l h m : Option Operand} (ho : o.op = .slice T x l h m) {A : Option Addr} {n c : Nat} (hx : a.eval x = .slice A n c)
  {e : TypeId} (hu : P.underlying T = some (.slice e)) {z : Value} {s b : Nat} (he : GW P e z s b) (hs0 : 0 < s) {xs : List Value} (hs : SlR W A n c s xs) (lo hi mx : Nat)
  (hl : (l.map a.eval = none ∧ lo = 0) ∨ ∃ k v, l.map a.eval = some v ∧ v = .int k ((lo : Nat) : Int)) (hh : (h.map a.eval = none ∧ hi = n ∧ m.map a.eval = none) ∨ ∃ k v, h.map a.eval = some v ∧ v = .int k ((hi : Nat) : Int)) (hm : (m.map a.eval = none ∧ mx = c) ∨ ∃ k v, m.map a.eval = some v ∧ v = .int k ((mx : Nat) : Int))
  (h1 : lo ≤ hi) (h2 : hi ≤ n) (h3 : hi ≤ mx) (h4 : mx ≤ c)
  (hk : ∀ (A' : Option Addr) (c' : Nat), SlR W A' (hi - lo) c' s ((xs.drop (lo * s)).take ((hi - lo) * s)) → wpList P ops Q rest (a.put d (.slice A' (hi - lo) c')) W) : wpList P ops Q (o :: rest) a W := by
 refine Js hd hw ?_ (hk _ _ (hs.cut hs0 h1 h2 h3 h4))
 unfold execOp
 simp only [ho, hx]
 simp [run_cutS (P := P) (W := W) hu he hl hh hm h1 h3 h4]
theorem Jx (hd : o.dst = d) (hw : Region.wanted o (yielded ops a.tmps) = true) {T : TypeId} {x : Operand} (ho : o.op = .slice T x none none none) {g : Nat} (hx : a.eval x = .pointer (some ⟨g, 0, none⟩))
  {n : Nat} {e : TypeId} (hu : P.underlying T = some (.array n e)) {z : Value} {s b : Nat} (he : GW P e z s b) {cs : Array Value} {t : TypeId} {fr : Nat × Nat} (hg : W.heap[g]? = some (.cells cs t fr)) (hc : cs.size = n * s) (hn : n ≤ maxLen)
  (h : SlR W (some ⟨g, 0, none⟩) n n s cs.toList → wpList P ops Q rest (a.put d (.slice (some ⟨g, 0, none⟩) n n)) W) : wpList P ops Q (o :: rest) a W := by
 refine Js hd hw ?_ (h ⟨by simp [hc], Nat.le_refl _, hn, fun _ => ⟨g, 0, rfl, Jk hg (fun j v hv => by simpa using hv)⟩⟩)
 unfold execOp
 simp only [ho, hx]
 have hb : (Instr.sliceBounds false n n none none none).run P W = .ok (0, n, n) W := by simp [Instr.sliceBounds]
 simp [Instr.sliceAt, run_underlying hu, Instr.sureAddr, hb, he.run_size, Addr.add_mid]
theorem St.cutRow (h : St w0 W L) (k : Nat) {A : Option Addr} {n c e s : Nat} {xs : List Value} (hk : L[k]? = some (.row A n c e s xs)) {lo hi mx : Nat} (h1 : lo ≤ hi) (h2 : hi ≤ n) (h3 : hi ≤ mx) (h4 : mx ≤ c) :
  St w0 W (L.set k (.row (if mx = lo then A else A.map (·.add (lo * s))) (hi - lo) (mx - lo) e s ((xs.drop (lo * s)).take ((hi - lo) * s)))) := by
 refine h.turnAt k hk rfl rfl rfl (Nat.le_refl _) (fun _ _ _ => rfl) ?_ ?_
 ·intro g hg
  left
  simp only [Res.dom] at *
  split at hg
  ·exact hg
  ·cases A with
   | none => simp at hg
   | some a =>
    simp only [Option.map_some, Option.some.injEq] at hg ⊢
    rw [← hg]
    unfold Addr.add
    split <;> rfl
 ·rcases h.at_ k hk with ⟨rfl, rfl, rfl, rfl⟩ | ⟨g, off, cur, rfl, hh, hr⟩
  ·exact .inl ⟨by split <;> rfl, by omega, by omega, by simp⟩
  ·have hl := hr.len
   have hroom := hr.room
   have hlen : ((xs.drop (lo * s)).take ((hi - lo) * s)).length = (hi - lo) * s := by
    rw [List.length_take, List.length_drop, hl]
    have : (hi - lo) * s ≤ n * s - lo * s := by rw [← Nat.sub_mul]; exact Nat.mul_le_mul_right _ (by omega)
    omega
   by_cases hm : mx = lo
   ·subst hm
    have e0 : hi - mx = 0 := by omega
    refine .inr ⟨g, off, cur, by simp, hh, ?_⟩
    refine ⟨hlen, by omega, by omega, by rw [Nat.sub_self, Nat.zero_mul]; omega, fun j v hv => ?_⟩
    rw [e0] at hv
    simp at hv
   ·refine .inr ⟨g, off + lo * s, cur, by simp [hm, Addr.add_mid], hh, ?_⟩
    refine ⟨hlen, by omega, by have := hr.cm; omega, ?_, fun j v hv => ?_⟩
    ·have e1 : lo * s + (mx - lo) * s ≤ c * s := by rw [← Nat.add_mul]; exact Nat.mul_le_mul_right _ (by omega)
     omega
    ·rw [List.getElem?_take] at hv
     split at hv
     ·rw [List.getElem?_drop] at hv
      rw [Nat.add_assoc]
      exact hr.cells _ _ hv
     ·cases hv
theorem L_cutO (hd : o.dst = d) (hw : Region.wanted o (yielded ops a.tmps) = true) (Ga : St w0 W L) {T : TypeId} {x : Operand} {l h m : Option Operand} (ho : o.op = .slice T x l h m) {A : Option Addr} {n c : Nat} (hx : a.eval x = .slice A n c)
  {e : TypeId} (hu : P.underlying T = some (.slice e)) {z : Value} {s b : Nat} (he : GW P e z s b) (k : Nat) {xs : List Value} {n' : Nat} (hk : L[k]? = some (.row A n' c e s xs)) (hnn : n' = n) (lo hi mx : Nat)
  (hl : (l.map a.eval = none ∧ lo = 0) ∨ ∃ k v, l.map a.eval = some v ∧ v = .int k ((lo : Nat) : Int)) (hh : (h.map a.eval = none ∧ hi = n ∧ m.map a.eval = none) ∨ ∃ k v, h.map a.eval = some v ∧ v = .int k ((hi : Nat) : Int)) (hm : (m.map a.eval = none ∧ mx = c) ∨ ∃ k v, m.map a.eval = some v ∧ v = .int k ((mx : Nat) : Int))
  (h1 : lo ≤ hi) (h2 : hi ≤ n) (h3 : hi ≤ mx) (h4 : mx ≤ c)
  (hq : ∀ (A' : Option Addr) (c' : Nat), St w0 W (L.set k (.row A' (hi - lo) c' e s ((xs.drop (lo * s)).take ((hi - lo) * s)))) → wpList P ops Q rest (a.put d (.slice A' (hi - lo) c')) W) : wpList P ops Q (o :: rest) a W := by
 subst hnn
 refine Js hd hw ?_ (hq _ _ (Ga.cutRow k hk h1 h2 h3 h4))
 unfold execOp
 simp only [ho, hx]
 simp [run_cutS (P := P) (W := W) hu he hl hh hm h1 h3 h4]
theorem St.newRow (e : TypeId) {n s : Nat} {cs : Array Value} (hc : cs.size = n * s) (hn : n ≤ maxLen) : St W (W.alloc (.cells cs e)) [.row (some ⟨W.heap.size, 0, none⟩) n n e s cs.toList] :=
 (St.refl W).allocRow e ⟨by simp [hc], Nat.le_refl _, hn, by omega, fun j v hv => by simpa using hv⟩
theorem L_makeS (hd : o.dst = d) (hw : Region.wanted o (yielded ops a.tmps) = true) {T : TypeId} {x y : Operand} (ho : o.op = .makeSlice T x y) {n : Nat} (hx : a.eval x = .int .i64 (n : Int)) (hy : a.eval y = .int .i64 (n : Int))
  {e : TypeId} (hu : P.underlying T = some (.slice e)) {z : Value} {b : Nat} (he : GW P e z 1 b) (hz : z.oneCell' = true) (hb : b * n ≤ 281474976710656) (hn : n ≤ maxLen)
  (h : ∀ (A : Option Addr) (W' : World), St W W' [.row A n n e 1 (List.replicate n z)] → wpList P ops Q rest (a.put d (.slice A n n)) W') : wpList P ops Q (o :: rest) a W := by
 obtain ⟨i, hi, hiz, his, hib⟩ := he.parts
 have hcz : z.cells = #[z] := by cases z <;> simp_all [Value.oneCell', Value.cells]
 have hn' : (n : Int) ≤ 9223372036854775807 := by simp only [maxLen] at hn; omega
 have hr := run_make (P := P) W T e i z hu hi hiz .i64 .i64 n n (by omega) (Int.le_refl _) (by rw [hib]; omega) hn'
 simp only [Int.toNat_natCast] at hr
 have hsz := size_madeCells z.cells (n * i.size)
 have hcells : (madeCells z.cells (n * i.size)).toList = List.replicate n z := by
  rw [his, Nat.mul_one]
  simp only [madeCells, hcz]
  apply List.ext_getElem?
  intro j
  by_cases hj : j < n
  ·simp [hj, Nat.mod_one]
  ·simp [hj]
 have hrow := St.newRow (W := W) e (n := n) (s := 1) (cs := madeCells z.cells (n * i.size)) (by rw [hsz, his]) hn
 rw [hcells] at hrow
 refine Js hd hw ?_ (h _ _ hrow)
 unfold execOp
 simp only [ho, hx, hy]
 simp [hr]
theorem GY (hd : o.dst = d) (hw : Region.wanted o (yielded ops a.tmps) = true) (Ga : St w0 W L) {x y : Operand} {t : TypeId} (ho : o.op = .call { callee := .builtin .append, args := #[x, y], argTypes := #[t, t] })
  {A B : Option Addr} {n c m dd : Nat} (hx : a.eval x = .slice A n c) (hy : a.eval y = .slice B m dd) {e s : Nat} (ht : P.underlying t = some (.slice e)) {z : Value} {b : Nat}
  (he : GW P e z s b) (hzs : z.cells.size = s) (hs : 0 < s) (hb0 : 0 < b) (k : Nat) {xs news : List Value} {n' : Nat} (hk : L[k]? = some (.row A n' c e s xs)) (hnn : n' = n) (hr : SlR W B m dd s news) (h1 : ∀ u ∈ news, u.oneCell' = true) (hb : (n + m) * b ≤ 140737488355328)
  (h : ∀ (A' : Option Addr) (c' : Nat) (W' : World), St w0 W' (L.set k (.row A' (n + m) c' e s (xs ++ news))) → wpList P ops Q rest (a.put d (.slice A' (n + m) c')) W') : wpList P ops Q (o :: rest) a W := by
 subst hnn
 obtain ⟨A', c', W', hrun, hst'⟩ := run_append_st (P := P) (ty := o.type) Ga k hk ht he hzs hs hb0 hr h1 hb
 refine Js hd hw ?_ (h A' c' W' hst')
 unfold execOp
 simp only [ho, resolve, invoke, builtin, Sem.run_bind, Sem.run_pure, Result.andThen_ok, List.map_toArray, List.map_cons, List.map_nil, hx, hy, hrun]
theorem P2 (vs : List Value) : ∀ (j off : Nat) (cs : Array Value), off + j + vs.length ≤ cs.size → (vs.zipIdx j).foldl (fun (cs : Array Value) (p : Value × Nat) => cs.setIfInBounds (off + p.2) p.1) cs = Jg cs (off + j) vs := by
 induction vs with
 | nil => intro j off cs _; simp [Jg]
 | cons v vs ih =>
  intro j off cs h
  simp only [List.length_cons] at h
  simp only [List.zipIdx_cons, List.foldl_cons]
  rw [ih (j + 1) off _ (by simp; omega), ← Nat.add_assoc, putAt_cons _ _ _ _ (by omega)]
theorem putAt_putAt (cs : Array Value) (o : Nat) (xs ys : List Value) (h : o + xs.length + ys.length ≤ cs.size) : Jg (Jg cs o xs) (o + xs.length) ys = Jg cs o (xs ++ ys) := by
 have hT : (cs.toList.take o).length = o := by simp; omega
 have hTX : (cs.toList.take o ++ xs).length = o + xs.length := by rw [List.length_append, hT]
 unfold Jg
 congr 1
 simp only [List.length_append]
 rw [List.take_append_of_le_length (by omega), List.take_of_length_le (by omega), List.drop_append, List.drop_eq_nil_of_le (by omega), List.nil_append, hTX, List.drop_drop]
 simp only [List.append_assoc]
 rw [show o + xs.length + (o + xs.length + ys.length - (o + xs.length)) = o + (xs.length + ys.length) by omega]
theorem fill_seq {s : Nat} : ∀ (vs : List Value) (k : Nat) (cs : Array Value), (∀ v ∈ vs, v.cells.size = s) → (k + vs.length) * s ≤ cs.size →
  Instr.fill (fun i => some (i * s, s)) cs ((vs.zipIdx k).map fun p => (p.2, p.1)) = some (Jg cs (k * s) (vs.flatMap fun v => v.cells.toList))
 | [], k, cs, _, _ => by simp [Instr.fill, Jg]
 | v :: vs, k, cs, hs, hl => by
  have h1 := hs v (by simp)
  simp only [List.length_cons] at hl
  have e1 : (k + (vs.length + 1)) * s = k * s + s + vs.length * s := by rw [Nat.add_mul, Nat.add_mul, Nat.one_mul]; omega
  have hfl : (vs.flatMap fun v => v.cells.toList).length = vs.length * s := by
   have : ∀ l : List Value, (∀ v ∈ l, v.cells.size = s) → (l.flatMap fun v => v.cells.toList).length = l.length * s := by
    intro l
    induction l with
    | nil => intro _; simp
    | cons x l ih =>
     intro hl
     simp only [List.flatMap_cons, List.length_append, Array.length_toList, List.length_cons, ih (fun v hv => hl v (by simp [hv])), hl x (by simp), Nat.add_mul, Nat.one_mul]
     omega
   exact this vs (fun v hv => hs v (by simp [hv]))
  have hf := P2 v.cells.toList 0 (k * s) cs (by simp [h1]; omega)
  have hsz : (Jg cs (k * s) v.cells.toList).size = cs.size := by
   unfold Jg
   simp [h1]
   omega
  simp only [List.zipIdx_cons, List.map_cons, Instr.fill]
  have hc : ¬ ((v.cells.size ≠ s || k * s + v.cells.size > cs.size) = true) := by
   simp [h1]
   omega
  rw [if_neg (by simpa using hc)]
  have hz : (v.cells.zipIdx.foldl (fun cs x => cs.setIfInBounds (k * s + x.2) x.1) cs) = Jg cs (k * s) v.cells.toList := by
   rw [← Array.foldl_toList, Array.toList_zipIdx]
   simpa using hf
  have hz' : (v.cells.zipIdx.foldl (fun cs x => match x with | (c, j) => cs.setIfInBounds (k * s + j) c) cs) = Jg cs (k * s) v.cells.toList := hz
  rw [hz', fill_seq vs (k + 1) _ (fun v hv => hs v (by simp [hv])) (by rw [hsz, Nat.add_mul, Nat.add_mul]; omega)]
  have := putAt_putAt cs (k * s) v.cells.toList (vs.flatMap fun v => v.cells.toList) (by simp [h1, hfl]; omega)
  simp only [Array.length_toList, h1] at this
  rw [show (k + 1) * s = k * s + s by rw [Nat.add_mul, Nat.one_mul], this]
  simp
theorem putAt_all (cs : Array Value) (vs : List Value) (h : cs.size = vs.length) : Jg cs 0 vs = vs.toArray := by
 unfold Jg
 simp
 omega
theorem bs_0 {a : Act}  : ((#[] : Array (Nat × Operand)).map fun p => (p.1, a.eval p.2)) = ((([] : List Value).zipIdx 0).map fun p => (p.2, p.1)).toArray := by simp
theorem Kj {a : Act} {x0 : Operand} {v0 : Value} (h0 : a.eval x0 = v0) : (#[(0, x0)].map fun (p : Nat × Operand) => (p.1, a.eval p.2)) = (([v0].zipIdx 0).map fun p => (p.2, p.1)).toArray := by simp [h0]
theorem bs_2 {a : Act} {x0 x1 : Operand} {v0 v1 : Value} (h0 : a.eval x0 = v0) (h1 : a.eval x1 = v1) : (#[(0, x0), (1, x1)].map fun (p : Nat × Operand) => (p.1, a.eval p.2)) = (([v0, v1].zipIdx 0).map fun p => (p.2, p.1)).toArray := by simp [h0, h1]
theorem bs_3 {a : Act} {x0 x1 x2 : Operand} {v0 v1 v2 : Value} (h0 : a.eval x0 = v0) (h1 : a.eval x1 = v1) (h2 : a.eval x2 = v2) : (#[(0, x0), (1, x1), (2, x2)].map fun (p : Nat × Operand) => (p.1, a.eval p.2)) = (([v0, v1, v2].zipIdx 0).map fun p => (p.2, p.1)).toArray := by simp [h0, h1, h2]
theorem bs_4 {a : Act} {x0 x1 x2 x3 : Operand} {v0 v1 v2 v3 : Value} (h0 : a.eval x0 = v0) (h1 : a.eval x1 = v1) (h2 : a.eval x2 = v2) (h3 : a.eval x3 = v3) : (#[(0, x0), (1, x1), (2, x2), (3, x3)].map fun (p : Nat × Operand) => (p.1, a.eval p.2)) = (([v0, v1, v2, v3].zipIdx 0).map fun p => (p.2, p.1)).toArray := by simp [h0, h1, h2, h3]
theorem bs_5 {a : Act} {x0 x1 x2 x3 x4 : Operand} {v0 v1 v2 v3 v4 : Value} (h0 : a.eval x0 = v0) (h1 : a.eval x1 = v1) (h2 : a.eval x2 = v2) (h3 : a.eval x3 = v3) (h4 : a.eval x4 = v4) : (#[(0, x0), (1, x1), (2, x2), (3, x3), (4, x4)].map fun (p : Nat × Operand) => (p.1, a.eval p.2)) = (([v0, v1, v2, v3, v4].zipIdx 0).map fun p => (p.2, p.1)).toArray := by simp [h0, h1, h2, h3, h4]
theorem bs_8 {a : Act} {x0 x1 x2 x3 x4 x5 x6 x7 : Operand} {v0 v1 v2 v3 v4 v5 v6 v7 : Value} (h0 : a.eval x0 = v0) (h1 : a.eval x1 = v1) (h2 : a.eval x2 = v2) (h3 : a.eval x3 = v3) (h4 : a.eval x4 = v4) (h5 : a.eval x5 = v5) (h6 : a.eval x6 = v6) (h7 : a.eval x7 = v7) : (#[(0, x0), (1, x1), (2, x2), (3, x3), (4, x4), (5, x5), (6, x6), (7, x7)].map fun (p : Nat × Operand) => (p.1, a.eval p.2)) = (([v0, v1, v2, v3, v4, v5, v6, v7].zipIdx 0).map fun p => (p.2, p.1)).toArray := by simp [h0, h1, h2, h3, h4, h5, h6, h7]
theorem G0 (hd : o.dst = d) (hw : Region.wanted o (yielded ops a.tmps) = true) {T : TypeId} {n : Nat} {ps : Array (Nat × Operand)} (ho : o.op = .buildSlice T n ps) (vs : List Value) (hx : (ps.map fun (i, x) => (i, a.eval x)) = ((vs.zipIdx 0).map fun p => (p.2, p.1)).toArray) (hn : vs.length = n)
  {e : TypeId} (hu : P.underlying T = some (.slice e)) {z : Value} {s b : Nat} (he : GW P e z s b) (hz : z.cells.size = s) (hs : ∀ v ∈ vs, v.cells.size = s) (hb : n * s ≤ 16777216) (hn0 : n ≤ maxLen)
  (h : ∀ (A : Option Addr) (W' : World), St W W' [.row A n n e s (vs.flatMap fun v => v.cells.toList)] → wpList P ops Q rest (a.put d (.slice A n n)) W') : wpList P ops Q (o :: rest) a W := by
 subst hn
 have hfl : (vs.flatMap fun v => v.cells.toList).length = vs.length * s := by
  have : ∀ l : List Value, (∀ v ∈ l, v.cells.size = s) → (l.flatMap fun v => v.cells.toList).length = l.length * s := by
   intro l
   induction l with
   | nil => intro _; simp
   | cons x l ih =>
    intro hl
    simp only [List.flatMap_cons, List.length_append, Array.length_toList, List.length_cons, ih (fun v hv => hl v (by simp [hv])), hl x (by simp), Nat.add_mul, Nat.one_mul]
    omega
  exact this vs hs
 have hfill : ∀ cs : Array Value, cs.size = vs.length * s → Instr.fill (fun i => some (i * s, s)) cs ((vs.zipIdx 0).map fun p => (p.2, p.1)) = some (vs.flatMap fun v => v.cells.toList).toArray := fun cs hc => by
  have := fill_seq (s := s) vs 0 cs hs (by rw [hc, Nat.zero_add]; exact Nat.le_refl _)
  rw [Nat.zero_mul, putAt_all _ _ (by rw [hc, hfl])] at this
  exact this
 have hlen : vs.length ≤ maxLen ∨ s = 0 := by
  rcases Nat.eq_zero_or_pos s with h0 | h0
  ·exact .inr h0
  ·left
   have : vs.length * 1 ≤ vs.length * s := Nat.mul_le_mul_left _ h0
   simp only [maxLen]
   omega
 obtain ⟨i, hi, hiz, his, hib⟩ := he.parts
 have hrow : ∀ cs : Array Value, cs.size = vs.length * s → vs.length ≤ maxLen → St W (W.alloc (.cells cs e)) [.row (some ⟨W.heap.size, 0, none⟩) vs.length vs.length e s cs.toList] := fun cs hc hn => St.newRow e hc hn
 have hrun : ∀ ps' : Array (Nat × Value), ps' = ((vs.zipIdx 0).map fun p => (p.2, p.1)).toArray → (Instr.buildSlice T vs.length ps').run P W = .ok (.slice (some ⟨W.heap.size, 0, none⟩) vs.length vs.length) (W.alloc (.cells (vs.flatMap fun v => v.cells.toList).toArray e)) := by
  rintro _ rfl
  by_cases h0 : vs.length * s = 0
  ·have hf := hfill #[] (by simp [h0])
   have hf' : Instr.fill (fun i => some (i * s, s)) #[] (vs.zipIdx.map fun p => (p.2, p.1)) = some (vs.flatMap fun v => v.cells.toList).toArray := hf
   simp [Instr.buildSlice, run_underlying hu, he.run_size, h0, Array.range_zero', hf', newRow]
  ·have hf := hfill ((Array.range (vs.length * s)).map (z.cells[· % z.cells.size]!)) (by simp)
   have hbb : ¬ (vs.length * s > 2 ^ 24) := by omega
   have hf' : Instr.fill (fun i => some (i * s, s)) ((Array.range (vs.length * s)).map (z.cells[· % z.cells.size]!)) (vs.zipIdx.map fun p => (p.2, p.1)) = some (vs.flatMap fun v => v.cells.toList).toArray := hf
   simp [Instr.buildSlice, run_underlying hu, he.run_size, he.run_zero, h0, hf', newRow]
   omega
 have hn1 : vs.length ≤ maxLen := by
  rcases hlen with h1 | h1
  ·exact h1
  ·exact hn0
 have hr2 := hrow (vs.flatMap fun v => v.cells.toList).toArray (by simpa using hfl) hn1
 refine Js hd hw ?_ (h _ _ (by simpa using hr2))
 unfold execOp
 simp only [ho]
 simp only [Sem.run_bind, hrun _ hx, Result.andThen_ok, Sem.run_pure]
theorem byteV_shr (m c : Nat) : JC (UInt8.ofNat (m >>> c)) = .int .u8 ((m : Int) / 2 ^ c % 256) := by
 unfold JC
 congr 1
 rw [UInt8.toNat_ofNat', Nat.shiftRight_eq_div_pow]
 have : (((2 : Nat) ^ c : Nat) : Int) = (2 : Int) ^ c := by simp
 rw [← this]
 omega
theorem MJ (hd : o.dst = d) (hw : Region.wanted o (yielded ops a.tmps) = true) {t t' e : TypeId} {x y : Operand} (ho : o.op = .binOp .eql t x y t') {z : Value} {bb : Nat} (ht : P.underlying t = some (.array 32 e)) (he : P.underlying e = some (.int .u8)) (hi : GW P e z 1 bb)
  (hg : P.eqGuardType P.depth t = false) {u v : Dig} (hx : a.eval x = .agg u.arr) (hy : a.eval y = .agg v.arr) (h : wpList P ops Q rest (a.put d (.bool (decide (u = v)))) W) : wpList P ops Q (o :: rest) a W := by
 refine Js hd hw ?_ h
 unfold execOp
 simp only [ho, hx, hy]
 have h1 : (eqGuard .eql t x y (.agg u.arr) (.agg v.arr)).run P W = .ok () W := by simp [eqGuard, program, Sem.run, hg]
 have h2 : (Go.binOp .eql t (.agg u.arr) (.agg v.arr)).run P W = .ok (.bool (decide (u = v))) W := by
  show (do Pure.pure (Value.bool (← Op.equal t (.agg u.arr) (.agg v.arr))) : Sem Value).run P W = _
  simp [Op.equal, Op.maxDepth, run_equal_digs ht he hi u v W]
 simp [h1, h2]
theorem Ml (hd : o.dst = d) (hw : Region.wanted o (yielded ops a.tmps) = true) {t t' e : TypeId} {x y : Operand} (ho : o.op = .binOp .neq t x y t') {z : Value} {bb : Nat} (ht : P.underlying t = some (.array 32 e)) (he : P.underlying e = some (.int .u8)) (hi : GW P e z 1 bb)
  (hg : P.eqGuardType P.depth t = false) {u v : Dig} (hx : a.eval x = .agg u.arr) (hy : a.eval y = .agg v.arr) (h : wpList P ops Q rest (a.put d (.bool (!decide (u = v)))) W) : wpList P ops Q (o :: rest) a W := by
 refine Js hd hw ?_ h
 unfold execOp
 simp only [ho, hx, hy]
 have h1 : (eqGuard .neq t x y (.agg u.arr) (.agg v.arr)).run P W = .ok () W := by simp [eqGuard, program, Sem.run, hg]
 have h2 : (Go.binOp .neq t (.agg u.arr) (.agg v.arr)).run P W = .ok (.bool (!decide (u = v))) W := by
  show (do Pure.pure (Value.bool (!(← Op.equal t (.agg u.arr) (.agg v.arr)))) : Sem Value).run P W = _
  simp [Op.equal, Op.maxDepth, run_equal_digs ht he hi u v W]
 simp [h1, h2]
theorem Nu (l : List UInt8) (lo n : Nat) : ((GK l).drop (lo * 1)).take (n * 1) = GK ((l.drop lo).take n) := by simp [GK, List.map_take, List.map_drop]
theorem St.pick (h : St w0 W L) (l : List Nat) (hn : l.Nodup) : St w0 W (l.filterMap (L[·]?)) := by
 refine ⟨h.below, fun r hr => ?_, fun r hr => ?_, ?_⟩
 ·obtain ⟨i, _, hi⟩ := List.mem_filterMap.1 hr
  exact h.res r (List.mem_of_getElem? hi)
 ·obtain ⟨i, _, hi⟩ := List.mem_filterMap.1 hr
  exact h.ge r (List.mem_of_getElem? hi)
 ·refine List.Pairwise.filterMap _ (R := fun i j => i ≠ j) (fun i j hij a ha b hb => ?_) hn
  have ha' := List.getElem?_eq_some_iff.1 ha
  have hb' := List.getElem?_eq_some_iff.1 hb
  obtain ⟨h1, rfl⟩ := ha'
  obtain ⟨h2, rfl⟩ := hb'
  rcases Nat.lt_or_gt_of_ne hij with hlt | hlt
  ·exact List.pairwise_iff_getElem.1 h.nd _ _ h1 h2 hlt
  ·exact (List.pairwise_iff_getElem.1 h.nd _ _ h2 h1 hlt).symm
end
end Go.Proofs.YtaebeemnipafbaaGreatDoor
