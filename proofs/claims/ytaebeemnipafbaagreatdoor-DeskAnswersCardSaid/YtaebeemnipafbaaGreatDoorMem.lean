/-
  Proved here: general laws on memory for walks over any program: what a call owns (blocks and slices that it made), slices that read as lists. No condition.
-/
import Derived.WalkKit
import Derived.Below
import Derived.Laws.Rows
import Derived.Laws.OwnMore
import Derived.Deep.MidRow
import Derived.Deep.Quiet
import Derived.Maps.AppendAt
import Derived.Lib.Hide
set_option linter.unusedSimpArgs false
set_option linter.unusedVariables false
set_option maxRecDepth 100000
set_option maxHeartbeats 200000000
namespace Go.Proofs.YtaebeemnipafbaaGreatDoor
open Go.RowKit
def SlR (W : World) (A : Option Addr) (n c s : Nat) (xs : List Value) : Prop :=
 xs.length = n * s ∧ n ≤ c ∧ c ≤ maxLen ∧ (0 < n → ∃ b o, A = some ⟨b, o, none⟩ ∧ W.rangeAt b o xs)
theorem Ns {W W' : World} {b o : Nat} {xs : List Value} (h : W.rangeAt b o xs) (hb : W'.heap[b]? = W.heap[b]?) : W'.rangeAt b o xs := fun j v hv => by
 rw [World.cell?_of_block (w := W) (w' := W') (a := ⟨b, o + j, none⟩) hb]
 exact h j v hv
theorem rangeAt_lt {W : World} {b o : Nat} {xs : List Value} (h : W.rangeAt b o xs) (hx : xs ≠ []) : b < W.heap.size := by
 cases xs with
 | nil => exact absurd rfl hx
 | cons x xs => exact block_lt_of_cell (h 0 x rfl)
theorem rangeAt_drop {W : World} {b o k : Nat} {xs : List Value} (h : W.rangeAt b o xs) : W.rangeAt b (o + k) (xs.drop k) := fun j v hv => by
 rw [List.getElem?_drop] at hv
 rw [Nat.add_assoc]
 exact h (k + j) v hv
theorem rangeAt_take {W : World} {b o k : Nat} {xs : List Value} (h : W.rangeAt b o xs) : W.rangeAt b o (xs.take k) := fun j v hv => by
 rw [List.getElem?_take] at hv
 split at hv
 ·exact h j v hv
 ·cases hv
theorem Jk {W : World} {g o : Nat} {t : TypeId} {cs : Array Value} {fr : Nat × Nat} (hg : W.heap[g]? = some (.cells cs t fr)) {xs : List Value} (hx : ∀ j v, xs[j]? = some v → cs[o + j]? = some v) : W.rangeAt g o xs := fun j v hv => by
 rw [cell_of_row W g _ cs t fr hg]
 exact hx j v hv
section
variable {W W' : World} {A : Option Addr} {n c s : Nat} {xs : List Value}
theorem SlR.nil_ (W : World) (s : Nat) : SlR W none 0 0 s [] := ⟨by simp, Nat.le_refl _, Nat.zero_le _, fun h => absurd h (by omega)⟩
theorem SlR.of_heap (h : SlR W A n c s xs) (hs : 0 < s) (hk : ∀ k, k < W.heap.size → W'.heap[k]? = W.heap[k]?) : SlR W' A n c s xs :=
 ⟨h.1, h.2.1, h.2.2.1, fun hn => by
  obtain ⟨b, o, rfl, hr⟩ := h.2.2.2 hn
  have hx : xs ≠ [] := fun e => by
   have := h.1
   rw [e] at this
   have := Nat.mul_pos hn hs
   simp at *
   omega
  exact ⟨b, o, rfl, Ns hr (hk b (rangeAt_lt hr hx))⟩⟩
theorem SlR.below (h : SlR W A n c s xs) (hs : 0 < s) (hb : Below W.heap.size W W') : SlR W' A n c s xs := h.of_heap hs hb.block
end
inductive Res where
 | blk (g : Nat) (t : TypeId) (cs : Array Value)
 | obj (g : Nat) (o : Obj)
 | row (A : Option Addr) (n c : Nat) (e : TypeId) (s : Nat) (xs : List Value)
def Res.dom : Res → Option Nat
 | .blk g _ _ => some g
 | .obj g _ => some g
 | .row A _ _ _ _ _ => A.map (·.block)
structure RowIn (off n c s : Nat) (cur : Array Value) (xs : List Value) : Prop where
 len : xs.length = n * s
 nc : n ≤ c
 cm : c ≤ maxLen
 room : off + c * s ≤ cur.size
 cells : ∀ j v, xs[j]? = some v → cur[off + j]? = some v
def Res.holds (W : World) : Res → Prop
 | .blk g t cs => W.heap[g]? = some (.cells cs t (0, 0))
 | .obj g o => W.heap[g]? = some o
 | .row A n c e s xs => (A = none ∧ n = 0 ∧ c = 0 ∧ xs = []) ∨ ∃ g off cur, A = some ⟨g, off, none⟩ ∧ W.heap[g]? = some (.cells cur e (0, 0)) ∧ RowIn off n c s cur xs
theorem Res.holds_lt {W : World} {r : Res} (h : r.holds W) {g : Nat} (hg : r.dom = some g) : g < W.heap.size := by
 cases r with
 | blk g' t cs => simp [Res.dom] at hg; subst hg; exact (Array.getElem?_eq_some_iff.1 h).1
 | obj g' o => simp [Res.dom] at hg; subst hg; exact (Array.getElem?_eq_some_iff.1 h).1
 | row A n c e s xs =>
  rcases h with ⟨rfl, _⟩ | ⟨g', off, cur, rfl, hh, _⟩
  ·simp [Res.dom] at hg
  ·simp [Res.dom] at hg; subst hg; exact (Array.getElem?_eq_some_iff.1 hh).1
theorem Res.holds_of {W W' : World} {r : Res} (h : r.holds W) (hb : ∀ g, r.dom = some g → W'.heap[g]? = W.heap[g]?) : r.holds W' := by
 cases r with
 | blk g' t cs => exact (hb g' rfl).trans h
 | obj g' o => exact (hb g' rfl).trans h
 | row A n c e s xs =>
  rcases h with h | ⟨g', off, cur, rfl, hh, hr⟩
  ·exact .inl h
  ·exact .inr ⟨g', off, cur, rfl, (hb g' rfl).trans hh, hr⟩
def Res.far (a b : Res) : Prop := ∀ g, a.dom = some g → b.dom ≠ some g
theorem Res.far.symm {a b : Res} (h : a.far b) : b.far a := fun g hb ha => h g ha hb
structure St (w0 W : World) (L : List Res) : Prop where
 below : Below w0.heap.size w0 W
 res : ∀ r ∈ L, r.holds W
 ge : ∀ r ∈ L, ∀ g, r.dom = some g → w0.heap.size ≤ g
 nd : L.Pairwise Res.far
theorem perm_front {α : Type} : ∀ (l : List α) (n : Nat) (h : n < l.length), l.Perm (l[n] :: l.eraseIdx n)
 | x :: l, 0, _ => by simp
 | x :: l, n + 1, h => by
  have := perm_front l n (by simpa using h)
  simp only [List.getElem_cons_succ, List.eraseIdx_cons_succ]
  exact (this.cons x).trans (List.Perm.swap _ _ _)
theorem perm_set {α : Type} (y : α) : ∀ (l : List α) (n : Nat) (_ : n < l.length), (y :: l.eraseIdx n).Perm (l.set n y)
 | x :: l, 0, _ => by simp
 | x :: l, n + 1, h => by
  have := perm_set y l n (by simpa using h)
  simp only [List.eraseIdx_cons_succ, List.set_cons_succ]
  exact (List.Perm.swap _ _ _).trans (this.cons x)
section
variable {w0 W W' : World} {L : List Res} {r : Res}
theorem St.refl (w : World) : St w w [] := ⟨Below.refl _ _, by simp, by simp, List.Pairwise.nil⟩
theorem St.at_ (h : St w0 W L) (n : Nat) (hn : L[n]? = some r) : r.holds W := h.res r (List.mem_of_getElem? hn)
theorem St.get (h : St w0 W L) (n : Nat) {g : Nat} {t : TypeId} {cs : Array Value} (hn : L[n]? = some (.blk g t cs)) : W.heap[g]? = some (.cells cs t (0, 0)) := h.at_ n hn
theorem St.sl (h : St w0 W L) (n : Nat) {A : Option Addr} {m c e s : Nat} {xs : List Value} (hn : L[n]? = some (.row A m c e s xs)) : SlR W A m c s xs := by
 rcases h.at_ n hn with ⟨rfl, rfl, rfl, rfl⟩ | ⟨g, off, cur, rfl, hh, hr⟩
 ·exact SlR.nil_ W s
 ·exact ⟨hr.len, hr.nc, hr.cm, fun _ => ⟨g, off, rfl, Jk hh hr.cells⟩⟩
theorem St.old (h : St w0 W L) {A : Option Addr} {n c s : Nat} {xs : List Value} (hs : 0 < s) (hr : SlR w0 A n c s xs) : SlR W A n c s xs := hr.below hs h.below
theorem St.lt (h : St w0 W L) (hr : r ∈ L) {g : Nat} (hg : r.dom = some g) : g < W.heap.size := Res.holds_lt (h.res r hr) hg
theorem St.drew (h : St w0 W L) : St w0 W.drew L := ⟨h.below.drew, h.res, h.ge, h.nd⟩
theorem St.drewN (h : St w0 W L) (n : Nat) : St w0 (W.drewN n) L :=
 ⟨⟨h.below.os, h.below.tape, h.below.output, h.below.size, h.below.block⟩, h.res, h.ge, h.nd⟩
theorem St.drop (h : St w0 W L) {L' : List Res} (hs : L'.Sublist L) : St w0 W L' :=
 ⟨h.below, fun b hb => h.res b (hs.subset hb), fun b hb => h.ge b (hs.subset hb), h.nd.sublist hs⟩
theorem St.forget (h : St w0 W L) : St w0 W [] := h.drop (List.nil_sublist _)
theorem St.perm (h : St w0 W L) {L' : List Res} (hp : L.Perm L') : St w0 W L' :=
 ⟨h.below, fun b hb => h.res b (hp.mem_iff.2 hb), fun b hb => h.ge b (hp.mem_iff.2 hb), (hp.pairwise_iff (fun hab => Res.far.symm hab)).1 h.nd⟩
theorem St.front (h : St w0 W L) (n : Nat) (hn : L[n]? = some r) : St w0 W (r :: L.eraseIdx n) := by
 have hlt : n < L.length := (List.getElem?_eq_some_iff.1 hn).1
 have hb : L[n] = r := (List.getElem?_eq_some_iff.1 hn).2
 have : L.Perm (r :: L.eraseIdx n) := by
  rw [← hb]
  exact perm_front L n hlt
 exact h.perm this
theorem St.push (h : St w0 W L) (o : Obj) {r : Res} (hr : r.holds (W.alloc o)) (hd : ∀ g, r.dom = some g → g = W.heap.size) : St w0 (W.alloc o) (r :: L) := by
 have hold : ∀ x ∈ L, x.holds (W.alloc o) := fun x hx => Res.holds_of (h.res x hx) (fun g hg => Below.heap_alloc W o g (h.lt hx hg))
 refine ⟨h.below.alloc h.below.size _, ?_, ?_, List.Pairwise.cons (fun x hx g hg hxg => ?_) h.nd⟩
 ·intro x hx
  rcases List.mem_cons.1 hx with rfl | hx
  ·exact hr
  ·exact hold x hx
 ·intro x hx g hg
  rcases List.mem_cons.1 hx with rfl | hx
  ·rw [hd g hg]; exact h.below.size
  ·exact h.ge x hx g hg
 ·have h1 := h.lt hx hxg
  have h2 := hd g hg
  omega
theorem St.alloc (h : St w0 W L) (cs : Array Value) (t : TypeId) : St w0 (W.alloc (.cells cs t)) (.blk W.heap.size t cs :: L) :=
 h.push _ (heap_alloc_new W _) (fun g hg => by simpa [Res.dom] using hg.symm)
theorem St.allocObj (h : St w0 W L) (o : Obj) : St w0 (W.alloc o) (.obj W.heap.size o :: L) :=
 h.push _ (heap_alloc_new W _) (fun g hg => by simpa [Res.dom] using hg.symm)
theorem St.allocRow (h : St w0 W L) {n c s : Nat} {cur : Array Value} {xs : List Value} (e : TypeId) (hr : RowIn 0 n c s cur xs) :
  St w0 (W.alloc (.cells cur e)) (.row (some ⟨W.heap.size, 0, none⟩) n c e s xs :: L) :=
 h.push _ (.inr ⟨_, 0, cur, rfl, heap_alloc_new W _, hr⟩) (fun g hg => by simpa [Res.dom] using hg.symm)
theorem St.nilRow (h : St w0 W L) (e : TypeId) (s : Nat) : St w0 W (.row none 0 0 e s [] :: L) := by
 refine ⟨h.below, fun x hx => ?_, fun x hx g hg => ?_, List.Pairwise.cons (fun x _ g hg => by cases hg) h.nd⟩
 ·rcases List.mem_cons.1 hx with rfl | hx
  ·exact .inl ⟨rfl, rfl, rfl, rfl⟩
  ·exact h.res x hx
 ·rcases List.mem_cons.1 hx with rfl | hx
  ·cases hg
  ·exact h.ge x hx g hg
theorem St.turn (h : St w0 W (r :: L)) {r' : Res} (hos : W'.os = W.os) (htape : W'.tape = W.tape) (hout : W'.output = W.output)
  (hsz : W.heap.size ≤ W'.heap.size) (hoth : ∀ k, k < W.heap.size → r.dom ≠ some k → W'.heap[k]? = W.heap[k]?) (hd : ∀ g, r'.dom = some g → r.dom = some g ∨ W.heap.size ≤ g) (Gb : r'.holds W') :
  St w0 W' (r' :: L) := by
 obtain ⟨hnr, hnl⟩ := List.pairwise_cons.1 h.nd
 refine ⟨⟨hos.trans h.below.os, htape.trans h.below.tape, hout.trans h.below.output, Nat.le_trans h.below.size hsz, fun k hk => ?_⟩, ?_, ?_, List.Pairwise.cons (fun x hx g hg hxg => ?_) hnl⟩
 ·have := h.below.size
  exact (hoth k (by omega) (fun e => by have := h.ge r (by simp) k e; omega)).trans (h.below.block k hk)
 ·intro x hx
  rcases List.mem_cons.1 hx with rfl | hx
  ·exact Gb
  ·refine Res.holds_of (h.res x (by simp [hx])) (fun g hg => hoth g (h.lt (by simp [hx]) hg) (fun e => hnr x hx g e hg))
 ·intro x hx g hg
  rcases List.mem_cons.1 hx with rfl | hx
  ·rcases hd g hg with h1 | h1
   ·exact h.ge r (by simp) g h1
   ·exact Nat.le_trans h.below.size h1
  ·exact h.ge x (by simp [hx]) g hg
 ·rcases hd g hg with h1 | h1
  ·exact hnr x hx g h1 hxg
  ·have := h.lt (by simp [hx]) hxg
   omega
theorem St.turnAt (h : St w0 W L) (n : Nat) (hn : L[n]? = some r) {r' : Res} (hos : W'.os = W.os) (htape : W'.tape = W.tape) (hout : W'.output = W.output)
  (hsz : W.heap.size ≤ W'.heap.size) (hoth : ∀ k, k < W.heap.size → r.dom ≠ some k → W'.heap[k]? = W.heap[k]?) (hd : ∀ g, r'.dom = some g → r.dom = some g ∨ W.heap.size ≤ g) (Gb : r'.holds W') :
  St w0 W' (L.set n r') :=
 ((h.front n hn).turn hos htape hout hsz hoth hd Gb).perm (perm_set r' L n (List.getElem?_eq_some_iff.1 hn).1)
theorem St.setCell (h : St w0 W L) (n : Nat) {g : Nat} {t : TypeId} {cs : Array Value} (hn : L[n]? = some (.blk g t cs)) (i : Nat) (v : Value) :
  St w0 (W.setCell ⟨g, i, none⟩ v) (L.set n (.blk g t (cs.setIfInBounds i v))) :=
 h.turnAt n hn rfl rfl rfl (by simp [World.setCell]) (fun k _ hk => heap_setCell_other W ⟨g, i, none⟩ k v (fun e => hk (by simp [Res.dom, e]))) (fun g' hg' => .inl hg')
  (heap_setCell_same W g i cs t v (h.get n hn))
theorem St.setRow (h : St w0 W L) (n : Nat) {g : Nat} {t : TypeId} {cs : Array Value} (hn : L[n]? = some (.blk g t cs)) (cs' : Array Value) : St w0 (W.setRow g cs') (L.set n (.blk g t cs')) :=
 h.turnAt n hn rfl rfl rfl (by simp) (fun k _ hk => setRow_other W g k cs' (fun e => hk (by simp [Res.dom, e]))) (fun g' hg' => .inl hg') (setRow_heap W g cs cs' t (0, 0) (h.get n hn))
theorem St.trans (h : St w0 W L) {L' : List Res} (h' : St W W' L') : St w0 W' (L' ++ L) := by
 refine ⟨h.below.trans (h'.below.mono h.below.size), ?_, ?_, ?_⟩
 ·intro x hx
  rcases List.mem_append.1 hx with hx | hx
  ·exact h'.res x hx
  ·exact Res.holds_of (h.res x hx) (fun g hg => h'.below.block g (h.lt hx hg))
 ·intro x hx g hg
  rcases List.mem_append.1 hx with hx | hx
  ·exact Nat.le_trans h.below.size (h'.ge x hx g hg)
  ·exact h.ge x hx g hg
 ·refine List.pairwise_append.2 ⟨h'.nd, h.nd, fun a ha b hb g hga hgb => ?_⟩
  have h1 := h'.ge a ha g hga
  have h2 := h.lt hb hgb
  omega
theorem St.keep (h : St w0 W L) (h' : St W W' []) : St w0 W' L := h.trans h'
end
end Go.Proofs.YtaebeemnipafbaaGreatDoor
