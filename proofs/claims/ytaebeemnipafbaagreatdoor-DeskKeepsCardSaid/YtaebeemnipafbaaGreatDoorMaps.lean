/-
  Proved here: laws of operations on maps that a call owns and that only grow: look-up, update, length, range. No condition on any program but what each names.
-/
import Derived.Test.YtaebeemnipafbaaGreatDoorLaw
import Derived.Test.YtaebeemnipafbaaGreatDoorLawC
import Derived.Maps.RangeRun
import Derived.Maps.Keyed
set_option maxRecDepth 20000
set_option linter.unusedSimpArgs false
set_option linter.unusedVariables false
namespace Go.Proofs.YtaebeemnipafbaaGreatDoor
open Go.RowKit
open Go.Maps (Keyed)
open Go.ChangeMaps (setBlock)

/-! ## association lists -/
section
variable {α β : Type} [DecidableEq α]
/-- what stands at a key -/
def lookA (x : α) (l : List (α × β)) : Option β := (l.find? fun p => decide (p.1 = x)).map (·.2)
/-- a key's value turned, or a new one behind -/
def updA (x : α) (v : β) (l : List (α × β)) : List (α × β) := if x ∈ l.map (·.1) then l.map (fun p => if p.1 = x then (x, v) else p) else l ++ [(x, v)]
theorem lookA_mem {x : α} {v : β} : ∀ {l : List (α × β)}, (l.map (·.1)).Nodup → (x, v) ∈ l → lookA x l = some v
  | [], _, h => by cases h
  | a :: l, hd, h => by
    rw [List.map_cons, List.nodup_cons] at hd
    unfold lookA
    rcases List.mem_cons.1 h with rfl | h
    · simp
    · have hne : a.1 ≠ x := fun e => hd.1 (by rw [e]; exact List.mem_map.2 ⟨(x, v), h, rfl⟩)
      rw [List.find?_cons_of_neg (by simpa using hne)]
      exact lookA_mem hd.2 h
theorem lookA_some {x : α} {v : β} {l : List (α × β)} (h : lookA x l = some v) : (x, v) ∈ l := by
  unfold lookA at h
  cases hf : l.find? (fun p => decide (p.1 = x)) with
  | none => rw [hf] at h; cases h
  | some p =>
    rw [hf] at h
    have h1 : p.1 = x := by simpa using List.find?_some hf
    have h2 : p.2 = v := by simpa using h
    have := List.mem_of_find?_eq_some hf
    rw [← h1, ← h2]
    exact this
theorem lookA_none {x : α} {l : List (α × β)} : lookA x l = none ↔ x ∉ l.map (·.1) := by
  unfold lookA
  simp only [Option.map_eq_none_iff, List.find?_eq_none, decide_eq_true_eq, List.mem_map, Prod.exists, exists_and_right, exists_eq_right, not_exists]
  constructor
  · intro h v hv
    exact h (x, v) hv rfl
  · intro h p hp e
    exact h p.2 (by rw [← e]; exact hp)
theorem updA_keys (x : α) (v : β) (l : List (α × β)) : (updA x v l).map (·.1) = if x ∈ l.map (·.1) then l.map (·.1) else l.map (·.1) ++ [x] := by
  unfold updA
  split
  · rw [List.map_map]
    refine List.map_congr_left fun p _ => ?_
    show (if p.1 = x then (x, v) else p).1 = p.1
    split
    · rename_i h; exact h.symm
    · rfl
  · simp
theorem updA_nodup {x : α} {v : β} {l : List (α × β)} (h : (l.map (·.1)).Nodup) : ((updA x v l).map (·.1)).Nodup := by
  rw [updA_keys]
  split
  · exact h
  · rename_i hx
    rw [List.nodup_append]
    refine ⟨h, by simp, fun a ha b hb => ?_⟩
    rw [List.mem_singleton.1 hb]
    intro e
    exact hx (e ▸ ha)
theorem lookA_upd (x y : α) (v : β) (l : List (α × β)) : lookA y (updA x v l) = if x = y then some v else lookA y l := by
  unfold updA
  by_cases hx : x ∈ l.map (·.1)
  · rw [if_pos hx]
    induction l with
    | nil => cases hx
    | cons a l ih =>
      unfold lookA at ih ⊢
      rw [List.map_cons, List.find?_cons, List.find?_cons]
      by_cases ha : a.1 = x
      · by_cases hy : x = y
        · simp [ha, hy]
        · have : ¬ a.1 = y := fun e => hy (ha.symm.trans e)
          simp only [ha, if_true, hy, decide_false, if_false]
          by_cases hl : x ∈ l.map (·.1)
          · have := ih hl
            rw [if_neg hy] at this
            exact this
          · have e : l.map (fun p => if p.1 = x then (x, v) else p) = l := by
              conv => rhs; rw [← List.map_id l]
              refine List.map_congr_left fun p hp => ?_
              rw [if_neg (fun e => hl (List.mem_map.2 ⟨p, hp, e⟩))]
              rfl
            rw [e]
      · have hl : x ∈ l.map (·.1) := by
          rcases List.mem_cons.1 hx with h | h
          · exact absurd h.symm ha
          · exact h
        simp only [ha, if_false]
        by_cases hay : a.1 = y
        · have : ¬ x = y := fun e => ha (hay.trans e.symm)
          simp [hay, this]
        · simp only [hay, decide_false]
          exact ih hl
  · rw [if_neg hx]
    unfold lookA
    rw [List.find?_append]
    by_cases hy : x = y
    · subst hy
      have := lookA_none.2 hx
      unfold lookA at this
      rw [Option.map_eq_none_iff] at this
      rw [this]
      simp
    · cases l.find? (fun p => decide (p.1 = y)) <;> simp [hy]
theorem length_updA (x : α) (v : β) (l : List (α × β)) : (updA x v l).length = if (lookA x l).isSome then l.length else l.length + 1 := by
  unfold updA
  by_cases hx : x ∈ l.map (·.1)
  · have : (lookA x l).isSome = true := by
      cases h : lookA x l with
      | none => exact absurd hx (lookA_none.1 h)
      | some _ => rfl
    rw [if_pos hx, this]; simp
  · rw [if_neg hx, lookA_none.2 hx]; simp
end

/-! ## the block of a map -/
section
variable {α β : Type}
/-- its entries, stamped by their places -/
def mpE (fk : α → Value) (fv : β → Value) (l : List (α × β)) : Array MapEntry := (l.mapIdx fun i p => (⟨fk p.1, fv p.2, i⟩ : MapEntry)).toArray
def mpO (fk : α → Value) (fv : β → Value) (l : List (α × β)) : Obj := .map (mpE fk fv l) l.length
variable {fk : α → Value} {fv : β → Value} {l : List (α × β)}
theorem mpE_list : (mpE fk fv l).toList = l.mapIdx fun i p => (⟨fk p.1, fv p.2, i⟩ : MapEntry) := rfl
theorem mpE_size : (mpE fk fv l).size = l.length := by simp [mpE]
theorem mpE_at {i : Nat} : (mpE fk fv l).toList[i]? = (l[i]?).map fun p => (⟨fk p.1, fv p.2, i⟩ : MapEntry) := by rw [mpE_list, List.getElem?_mapIdx]
theorem mpE_mem {e : MapEntry} (h : e ∈ (mpE fk fv l).toList) : ∃ i p, l[i]? = some p ∧ e = ⟨fk p.1, fv p.2, i⟩ := by
  obtain ⟨i, hi⟩ := List.mem_iff_getElem?.1 h
  rw [mpE_at] at hi
  cases hp : l[i]? with
  | none => rw [hp] at hi; cases hi
  | some p => rw [hp] at hi; exact ⟨i, p, hp, (Option.some.inj hi).symm⟩
theorem mpE_born : (mpE fk fv l).toList.map (·.born) = List.range l.length := by
  apply List.ext_getElem?
  intro i
  rw [List.getElem?_map, mpE_at]
  by_cases h : i < l.length
  · rw [List.getElem?_range h, List.getElem?_eq_getElem h]; rfl
  · rw [List.getElem?_eq_none (by omega), List.getElem?_eq_none (by simpa using h)]; rfl

variable {P : Program} {k e t : TypeId} {W : World} {b : Nat}
/-- may these be keys? -/
def KeyOk (P : Program) (k : TypeId) (fk : α → Value) (x : α) : Prop := ∃ lit, keyOf P k (fk x) = some lit
theorem find_mp (K : Keyed P k) (hf : ∀ x y, fk x = fk y → x = y) (hl : ∀ p ∈ l, KeyOk P k fk p.1) {x : α} (hx : KeyOk P k fk x) (w : World) :
    (x ∉ l.map (·.1) ∧ (Instr.findKey k (fk x) (mpE fk fv l).toList).run P w = .ok none w) ∨ ∃ j p, l[j]? = some p ∧ p.1 = x ∧ (Instr.findKey k (fk x) (mpE fk fv l).toList).run P w = .ok (some (j, fv p.2)) w := by
  obtain ⟨lx, hlx⟩ := hx
  have hes : ∀ e ∈ (mpE fk fv l).toList, ∃ lit, keyOf P k e.key = some lit := fun e he => by
    obtain ⟨i, p, hp, rfl⟩ := mpE_mem he
    exact hl p (List.mem_of_getElem? hp)
  rcases K.find w hlx (mpE fk fv l).toList hes with ⟨h1, h2⟩ | ⟨j, e, h1, h2, h3⟩
  · refine .inl ⟨fun hm => ?_, h1⟩
    obtain ⟨p, hp, rfl⟩ := List.mem_map.1 hm
    obtain ⟨i, hi⟩ := List.mem_iff_getElem?.1 hp
    exact h2 ⟨fk p.1, fv p.2, i⟩ (List.mem_of_getElem? (i := i) (by rw [mpE_at, hi]; rfl)) rfl
  · rw [mpE_at] at h2
    cases hp : l[j]? with
    | none => rw [hp] at h2; cases h2
    | some p =>
      rw [hp] at h2
      obtain rfl := (Option.some.inj h2).symm
      exact .inr ⟨j, p, hp, hf _ _ h3, h1⟩
section
variable [DecidableEq α]
theorem run_lookA (K : Keyed P k) (ht : P.underlying t = some (.map k e)) {z : Value} (hz : (zeroValue e).run P W = .ok z W) (hf : ∀ x y, fk x = fk y → x = y) (hl : ∀ p ∈ l, KeyOk P k fk p.1) (hd : (l.map (·.1)).Nodup) {x : α} (hx : KeyOk P k fk x)
    (hb : W.heap[b]? = some (mpO fk fv l)) (c : Bool) :
    (Instr.lookup t (.map (some b)) (fk x) c).run P W = .ok (if c then .tuple #[((lookA x l).map fv).getD z, .bool (lookA x l).isSome] else ((lookA x l).map fv).getD z) W := by
  have hc : ∀ em, (Instr.checkKey em 10000 k (fk x)).run P W = .ok () W := fun em => by obtain ⟨_, h⟩ := hx; exact K.check W em h
  rcases find_mp (fv := fv) K hf hl hx W with ⟨h1, h2⟩ | ⟨j, p, hp, rfl, h2⟩
  · rw [lookA_none.2 h1]
    simp only [Instr.lookup, Sem.run_bind, run_underlying ht, MapKept.run_getObj_map hb, Sem.run_pure, hc, h2, hz, Result.andThen_ok]
    cases c <;> rfl
  · rw [lookA_mem hd (show (p.1, p.2) ∈ l from List.mem_of_getElem? hp)]
    simp only [Instr.lookup, Sem.run_bind, run_underlying ht, MapKept.run_getObj_map hb, Sem.run_pure, hc, h2, Result.andThen_ok]
    cases c <;> rfl
theorem run_updA (K : Keyed P k) (ht : P.underlying t = some (.map k e)) (hf : ∀ x y, fk x = fk y → x = y) (hl : ∀ p ∈ l, KeyOk P k fk p.1) (hd : (l.map (·.1)).Nodup) {x : α} (hx : KeyOk P k fk x) (v : β) (hb : W.heap[b]? = some (mpO fk fv l)) :
    (Instr.mapUpdate t (.map (some b)) (fk x) (fv v)).run P W = .ok () (setBlock W b (mpO fk fv (updA x v l))) := by
  have hc : ∀ em, (Instr.checkKey em 10000 k (fk x)).run P W = .ok () W := fun em => by obtain ⟨_, h⟩ := hx; exact K.check W em h
  have hset : ∀ o', (setObj b o').run P W = .ok () (setBlock W b o') := fun o' => by
    unfold mpO at hb
    simp [setObj, Sem.run, hb, setBlock]
  rcases find_mp (fv := fv) K hf hl hx W with ⟨h1, h2⟩ | ⟨j, p, hp, rfl, h2⟩
  · have e1 : updA x v l = l ++ [(x, v)] := if_neg h1
    have e2 : mpO fk fv (updA x v l) = .map ((mpE fk fv l).push ⟨fk x, fv v, l.length⟩) (l.length + 1) := by
      rw [e1]
      simp [mpO, mpE, List.mapIdx_append]
    rw [e2]
    simp only [Instr.mapUpdate, Sem.run_bind, run_underlying ht, MapKept.run_getObj_map hb, hc, h2, Result.andThen_ok]
    exact hset _
  · have hm : p.1 ∈ l.map (·.1) := List.mem_map.2 ⟨p, List.mem_of_getElem? hp, rfl⟩
    have hk : (Instr.keyThatStays ((((mpE fk fv l)[j]?).map (·.key)).getD (fk p.1)) (fk p.1)).run P W = .ok (fk p.1) W := by
      have e0 : (mpE fk fv l)[j]? = some ⟨fk p.1, fv p.2, j⟩ := by
        rw [← Array.getElem?_toList, mpE_at, hp]; rfl
      rw [e0]
      obtain ⟨_, h⟩ := hx
      exact K.stays W h
    have e2 : mpO fk fv (updA p.1 v l) = .map ((mpE fk fv l).modify j fun e => { e with key := fk p.1, val := fv v }) l.length := by
      have e1 : updA p.1 v l = l.map (fun q => if q.1 = p.1 then (p.1, v) else q) := if_pos hm
      rw [e1]
      unfold mpO
      rw [List.length_map]
      congr 1
      apply Array.ext'
      apply List.ext_getElem?
      intro i
      rw [mpE_at, Array.toList_modify, List.getElem?_modify, mpE_at, List.getElem?_map]
      cases hi : l[i]? with
      | none => simp
      | some q =>
        simp only [Option.map_some, Option.map_eq_map]
        by_cases hij : j = i
        · subst hij
          rw [hp] at hi
          obtain rfl := Option.some.inj hi
          simp
        · have hne : q.1 ≠ p.1 := fun e => by
            have h1 : (l.map (·.1))[i]? = some p.1 := by rw [List.getElem?_map, hi]; simp [e]
            have h2 : (l.map (·.1))[j]? = some p.1 := by rw [List.getElem?_map, hp]; rfl
            obtain ⟨l1, _⟩ := List.getElem?_eq_some_iff.1 h1
            exact hij (((List.getElem?_inj l1 hd).1 (h1.trans h2.symm)).symm)
          simp [hij, hne]
    rw [e2]
    simp only [Instr.mapUpdate, Sem.run_bind, run_underlying ht, MapKept.run_getObj_map hb, hc, h2, hk, Result.andThen_ok]
    exact hset _

end
/-! ## the range -/
theorem run_nextA {r n c0 : Nat} {dn : List Nat} (hn : n = l.length) (hc : n ≤ c0) (hb : W.heap[b]? = some (mpO fk fv l)) (hr : W.heap[r]? = some (.mapIter (some b) n dn.toArray c0)) (ty : TypeId) :
    ((∀ i, i < n → i ∈ dn) ∧ (Instr.next (.pointer (some ⟨r, 0, none⟩)) false ty).run P W = .ok (.tuple #[.bool false]) W) ∨
    ∃ i p, l[i]? = some p ∧ i ∉ dn ∧ ∃ w1 : World, (w1 = W ∨ w1 = W.drew) ∧ (Instr.next (.pointer (some ⟨r, 0, none⟩)) false ty).run P W = .ok (.tuple #[.bool true, fk p.1, fv p.2]) (setBlock w1 r (.mapIter (some b) n (dn ++ [i]).toArray n)) := by
  subst hn
  have hold : ∀ x ∈ (mpE fk fv l).toList, x.born < l.length := fun x hx => by
    obtain ⟨i, p, hp, rfl⟩ := mpE_mem hx
    exact (List.getElem?_eq_some_iff.1 hp).1
  rcases run_next_at (P := P) W ty r b l.length c0 dn.toArray (mpE fk fv l) l.length hr hb hold hc with ⟨h0, hrun⟩ | ⟨e, he, w1, hal, hrun⟩
  · refine .inl ⟨fun i hi => ?_, hrun⟩
    by_cases hd : i ∈ dn
    · exact hd
    · exfalso
      have hm : (⟨fk (l[i]).1, fv (l[i]).2, i⟩ : MapEntry) ∈ (mpE fk fv l).toList := List.mem_of_getElem? (i := i) (by rw [mpE_at, List.getElem?_eq_getElem hi]; rfl)
      have : (⟨fk (l[i]).1, fv (l[i]).2, i⟩ : MapEntry) ∈ (leftOf (mpE fk fv l) dn.toArray).toList := by
        simp only [leftOf, Array.toList_filter, List.mem_filter]
        refine ⟨hm, ?_⟩
        simp [hd]
      have e0 := Array.eq_empty_of_size_eq_zero h0
      rw [e0] at this
      cases this
  · simp only [leftOf, Array.toList_filter, List.mem_filter] at he
    obtain ⟨hm, hs⟩ := he
    obtain ⟨i, p, hp, rfl⟩ := mpE_mem hm
    refine .inr ⟨i, p, hp, by simpa using hs, w1, hal, ?_⟩
    rw [hrun]
    simp
theorem run_entryA {r n : Nat} {dn : List Nat} {i : Nat} {p : α × β} (hn : n = l.length) (hb : W.heap[b]? = some (mpO fk fv l)) (hr : W.heap[r]? = some (.mapIter (some b) n (dn ++ [i]).toArray n)) (hi : l[i]? = some p) :
    (Instr.entry (.pointer (some ⟨r, 0, none⟩))).run P W = .ok (.tuple #[fk p.1, fv p.2]) W := by
  subst hn
  have hr' : W.heap[r]? = some (.mapIter (some b) l.length (dn.toArray.push (⟨fk p.1, fv p.2, i⟩ : MapEntry).born) l.length) := by rw [hr]; simp
  exact run_entry_at W r b l.length dn.toArray (mpE fk fv l) l.length ⟨fk p.1, fv p.2, i⟩ hr' hb (List.mem_of_getElem? (i := i) (by rw [mpE_at, hi]; rfl)) (by rw [mpE_born]; exact List.nodup_range)
end

/-! ## at the operations -/
theorem heap_set_any {w : World} {b : Nat} {o : Obj} (h : w.heap[b]? = some o) (o' : Obj) : (setBlock w b o').heap[b]? = some o' ∧ ∀ i, i ≠ b → (setBlock w b o').heap[i]? = w.heap[i]? := by
  have hlt := (Array.getElem?_eq_some_iff.1 h).1
  refine ⟨by simp [setBlock, hlt], fun i hi => ?_⟩
  simp [setBlock, Array.getElem?_setIfInBounds_ne (Ne.symm hi)]
theorem St.obj {w0 W : World} {L : List Res} (h : St w0 W L) (n : Nat) {g : Nat} {o : Obj} (hn : L[n]? = some (.obj g o)) : W.heap[g]? = some o := h.at_ n hn
theorem St.setObj {w0 W : World} {L : List Res} (h : St w0 W L) (n : Nat) {g : Nat} {o : Obj} (hn : L[n]? = some (.obj g o)) (o' : Obj) : St w0 (setBlock W g o') (L.set n (.obj g o')) :=
  h.turnAt n hn rfl rfl rfl (by simp [setBlock]) (fun k _ hk => (heap_set_any (h.obj n hn) o').2 k (fun e => hk (by simp [Res.dom, e]))) (fun g' hg' => .inl hg') (heap_set_any (h.obj n hn) o').1
section
variable {α β : Type} {fk : α → Value} {fv : β → Value} {l : List (α × β)}
variable {P : Program} {ops : Array Oper} {rest : List Oper} {o : Oper} {a : Act} {W w0 : World} {Q : Exit → Act → World → Prop} {L : List Res} {d : Option Tmp} {T k e : TypeId} {b : Nat}
/-- a new map -/
theorem L_makeMap (fk : α → Value) (fv : β → Value) (hd : o.dst = d) (hw : Region.wanted o (yielded ops a.tmps) = true) (ho : o.op = .makeMap T none)
    (h : ∀ (g : Nat) (W' : World), St W W' [.obj g (mpO fk fv [])] → wpList P ops Q rest (a.put d (.map (some g))) W') : wpList P ops Q (o :: rest) a W :=
  L_val hd hw (v := .map (some W.heap.size)) (W' := W.alloc (.map #[] 0)) (by unfold execOp; simp only [ho]; rfl) (h _ _ ((St.refl W).allocObj _))
section
variable [DecidableEq α]
/-- 'v, ok := m[k]' -/
theorem L_look2 (hd : o.dst = d) (hw : Region.wanted o (yielded ops a.tmps) = true) {m x : Operand} (ho : o.op = .lookup T m x true) (K : Keyed P k) (ht : P.underlying T = some (.map k e)) {z : Value} {s bb : Nat} (hz : ElemIs P e z s bb)
    (hm : a.eval m = .map (some b)) {y : α} (hx : a.eval x = fk y) (hf : ∀ x y, fk x = fk y → x = y) (hl : ∀ p ∈ l, KeyOk P k fk p.1) (hnd : (l.map (·.1)).Nodup) (hy : KeyOk P k fk y) (hb : W.heap[b]? = some (mpO fk fv l)) {r : Option β} (hr : lookA y l = r)
    (h : wpList P ops Q rest (a.put d (.tuple #[(r.map fv).getD z, .bool r.isSome])) W) : wpList P ops Q (o :: rest) a W :=
  L_val hd hw (by unfold execOp; simp only [ho, hm, hx]; simp [run_lookA K ht (hz.run_zero W) hf hl hnd hy hb true, hr]) h
/-- 'm[k]' -/
theorem L_look1 (hd : o.dst = d) (hw : Region.wanted o (yielded ops a.tmps) = true) {m x : Operand} (ho : o.op = .lookup T m x false) (K : Keyed P k) (ht : P.underlying T = some (.map k e)) {z : Value} {s bb : Nat} (hz : ElemIs P e z s bb)
    (hm : a.eval m = .map (some b)) {y : α} (hx : a.eval x = fk y) (hf : ∀ x y, fk x = fk y → x = y) (hl : ∀ p ∈ l, KeyOk P k fk p.1) (hnd : (l.map (·.1)).Nodup) (hy : KeyOk P k fk y) (hb : W.heap[b]? = some (mpO fk fv l)) {r : Option β} (hr : lookA y l = r)
    (h : wpList P ops Q rest (a.put d ((r.map fv).getD z)) W) : wpList P ops Q (o :: rest) a W :=
  L_val hd hw (by unfold execOp; simp only [ho, hm, hx]; simp [run_lookA K ht (hz.run_zero W) hf hl hnd hy hb false, hr]) h
theorem L_look2s (hd : o.dst = d) (hw : Region.wanted o (yielded ops a.tmps) = true) {m x : Operand} (ho : o.op = .lookup T m x true) (K : Keyed P k) (ht : P.underlying T = some (.map k e)) {z : Value} {s bb : Nat} (hz : ElemIs P e z s bb)
    (hm : a.eval m = .map (some b)) {y : α} (hx : a.eval x = fk y) (hf : ∀ x y, fk x = fk y → x = y) (hl : ∀ p ∈ l, KeyOk P k fk p.1) (hnd : (l.map (·.1)).Nodup) (hy : KeyOk P k fk y) (hb : W.heap[b]? = some (mpO fk fv l)) {r : β} (hr : lookA y l = some r)
    (h : wpList P ops Q rest (a.put d (.tuple #[fv r, .bool true])) W) : wpList P ops Q (o :: rest) a W :=
  L_look2 hd hw ho K ht hz hm hx hf hl hnd hy hb hr h
theorem L_look2n (hd : o.dst = d) (hw : Region.wanted o (yielded ops a.tmps) = true) {m x : Operand} (ho : o.op = .lookup T m x true) (K : Keyed P k) (ht : P.underlying T = some (.map k e)) {z : Value} {s bb : Nat} (hz : ElemIs P e z s bb)
    (hm : a.eval m = .map (some b)) {y : α} (hx : a.eval x = fk y) (hf : ∀ x y, fk x = fk y → x = y) (hl : ∀ p ∈ l, KeyOk P k fk p.1) (hnd : (l.map (·.1)).Nodup) (hy : KeyOk P k fk y) (hb : W.heap[b]? = some (mpO fk fv l)) (hr : lookA y l = none)
    (h : wpList P ops Q rest (a.put d (.tuple #[z, .bool false])) W) : wpList P ops Q (o :: rest) a W :=
  L_look2 hd hw ho K ht hz hm hx hf hl hnd hy hb hr h
theorem L_look1s (hd : o.dst = d) (hw : Region.wanted o (yielded ops a.tmps) = true) {m x : Operand} (ho : o.op = .lookup T m x false) (K : Keyed P k) (ht : P.underlying T = some (.map k e)) {z : Value} {s bb : Nat} (hz : ElemIs P e z s bb)
    (hm : a.eval m = .map (some b)) {y : α} (hx : a.eval x = fk y) (hf : ∀ x y, fk x = fk y → x = y) (hl : ∀ p ∈ l, KeyOk P k fk p.1) (hnd : (l.map (·.1)).Nodup) (hy : KeyOk P k fk y) (hb : W.heap[b]? = some (mpO fk fv l)) {r : β} (hr : lookA y l = some r)
    (h : wpList P ops Q rest (a.put d (fv r)) W) : wpList P ops Q (o :: rest) a W :=
  L_look1 hd hw ho K ht hz hm hx hf hl hnd hy hb hr h
/-- 'm[k] = v' -/
theorem L_mapUpd (hd : o.dst = none) (hw : Region.wanted o (yielded ops a.tmps) = true) (hst : St w0 W L) {m x y : Operand} (ho : o.op = .mapUpdate T m x y) (K : Keyed P k) (ht : P.underlying T = some (.map k e))
    (hm : a.eval m = .map (some b)) {u : α} {v : β} (hx : a.eval x = fk u) (hv : a.eval y = fv v) (hf : ∀ x y, fk x = fk y → x = y) (hl : ∀ p ∈ l, KeyOk P k fk p.1) (hnd : (l.map (·.1)).Nodup) (hy : KeyOk P k fk u) (n : Nat) (hn : L[n]? = some (.obj b (mpO fk fv l)))
    (h : ∀ W' : World, St w0 W' (L.set n (.obj b (mpO fk fv (updA u v l)))) → wpList P ops Q rest a W') : wpList P ops Q (o :: rest) a W :=
  L_skip hd hw (by unfold execOp; simp only [ho, hm, hx, hv]; simp [run_updA K ht hf hl hnd hy v (hst.obj n hn)]) (h _ (hst.setObj n hn _))
end
/-- 'len(m)' -/
theorem L_lenM (hd : o.dst = d) (hw : Region.wanted o (yielded ops a.tmps) = true) {m : Operand} (ho : o.op = .call { callee := .builtin .len, args := #[m], argTypes := #[T] }) (ht : P.underlying T = some (.map k e)) (hm : a.eval m = .map (some b)) (hb : W.heap[b]? = some (mpO fk fv l))
    (h : wpList P ops Q rest (a.put d (.int .i64 (l.length : Int))) W) : wpList P ops Q (o :: rest) a W := by
  have hr : (Builtin.len_ #[T] o.type #[.map (some b)]).run P W = .ok (.int .i64 (l.length : Int)) W := by
    unfold mpO at hb
    simp [Builtin.len_, run_underlying ht, MapKept.run_getObj_map hb, goInt, Result.andThen, mpE_size]
  refine L_val hd hw ?_ h
  unfold execOp
  simp [ho, resolve, invoke, builtin, hm, hr, Result.andThen]
/-- 'range m' -/
theorem L_range (hd : o.dst = d) (hw : Region.wanted o (yielded ops a.tmps) = true) {m : Operand} (ho : o.op = .range T m) (ht : P.underlying T = some (.map k e)) (hm : a.eval m = .map (some b)) (hb : W.heap[b]? = some (mpO fk fv l))
    (h : ∀ (g : Nat) (W' : World), St W W' [.obj g (.mapIter (some b) l.length ([] : List Nat).toArray l.length)] → wpList P ops Q rest (a.put d (.pointer (some ⟨g, 0, none⟩))) W') : wpList P ops Q (o :: rest) a W :=
  L_val hd hw (by unfold execOp; simp only [ho, hm]; simp [run_range_map W T k e b _ _ ht hb]) (h _ _ ((St.refl W).allocObj _))
/-- the step: nothing is left, or an entry comes -/
theorem L_next (hd : o.dst = d) (hw : Region.wanted o (yielded ops a.tmps) = true) (hst : St w0 W L) {it : Operand} (ho : o.op = .next it false) {r n c0 : Nat} {dn : List Nat} (hit : a.eval it = .pointer (some ⟨r, 0, none⟩)) (hn : n = l.length) (hc : n ≤ c0)
    (hb : W.heap[b]? = some (mpO fk fv l)) (q : Nat) (hq : L[q]? = some (.obj r (.mapIter (some b) n dn.toArray c0)))
    (h0 : (∀ i, i < n → i ∈ dn) → wpList P ops Q rest (a.put d (.tuple #[.bool false])) W)
    (h1 : ∀ (i : Nat) (p : α × β) (W' : World), l[i]? = some p → i ∉ dn → St w0 W' (L.set q (.obj r (.mapIter (some b) n (dn ++ [i]).toArray n))) → wpList P ops Q rest (a.put d (.tuple #[.bool true, fk p.1, fv p.2])) W') :
    wpList P ops Q (o :: rest) a W := by
  rcases run_nextA (P := P) hn hc hb (hst.obj q hq) o.type with ⟨g, hrun⟩ | ⟨i, p, hp, hi, w1, hal, hrun⟩
  · exact L_val hd hw (by unfold execOp; simp only [ho, hit]; simp [hrun]) (h0 g)
  · have hst1 : St w0 w1 L := by
      rcases hal with rfl | rfl
      · exact hst
      · exact hst.drew
    exact L_val hd hw (by unfold execOp; simp only [ho, hit]; simp [hrun]) (h1 i p _ hp hi (hst1.setObj q hq _))
/-- the entry of the round -/
theorem L_entry (hd : o.dst = d) (hw : Region.wanted o (yielded ops a.tmps) = true) {it : Operand} (ho : o.op = .entry it) {r n : Nat} {dn : List Nat} {i : Nat} {p : α × β} (hit : a.eval it = .pointer (some ⟨r, 0, none⟩)) (hn : n = l.length)
    (hb : W.heap[b]? = some (mpO fk fv l)) (hr : W.heap[r]? = some (.mapIter (some b) n (dn ++ [i]).toArray n)) (hi : l[i]? = some p)
    (h : wpList P ops Q rest (a.put d (.tuple #[fk p.1, fv p.2])) W) : wpList P ops Q (o :: rest) a W :=
  L_val hd hw (by unfold execOp; simp only [ho, hit]; simp [run_entryA (P := P) hn hb hr hi]) h
end
end Go.Proofs.YtaebeemnipafbaaGreatDoor
