/-
  Proved here: how the arguments of a row are opened: numbers, digests, slices of bytes, of digests, of slices of bytes; the table of the digest. No condition on any program.
-/
import Derived.Test.YtaebeemnipafbaaGreatDoorOpen
import Derived.Deep.Slices
import Derived.SizedLaws
import Derived.Lib.LaidTab
import Derived.LaidLaws
import Derived.Test.YtaebeemnipafbaaGreatDoorSq
set_option linter.unusedSimpArgs false
set_option linter.unusedVariables false
set_option maxRecDepth 100000
set_option maxHeartbeats 200000000
namespace Go.Proofs.YtaebeemnipafbaaGreatDoor
open Go.ChangeShapes Go.WideShapes Go.ChangeAt Go.RowKit Go.Deep
section
variable {P : Program} {H : Type} {enc : TypeId × Value → H} {W : World} {base : Nat} {spare : Nat → Bool} {held : Bool}
theorem flat_get {α : Type} {s : Nat} (hs : 0 < s) (cs : Nat → List α) : ∀ (n : Nat), (∀ i, i < n → (cs i).length = s) → ∀ j, j < n * s → ((List.range n).flatMap cs)[j]? = (cs (j / s))[j % s]?
 | 0, _, j, hj => by omega
 | n + 1, h, j, hj => by
  have hl : ((List.range n).flatMap cs).length = n * s := by
   clear hj
   have : ∀ m, m ≤ n → ((List.range m).flatMap cs).length = m * s := by
    intro m
    induction m with
    | zero => intro _; simp
    | succ m ih =>
     intro hm
     rw [List.range_succ, List.flatMap_append, List.length_append, ih (by omega)]
     simp only [List.flatMap_cons, List.flatMap_nil, List.append_nil, h m (by omega)]
     rw [Nat.add_mul, Nat.one_mul]
   exact this n (Nat.le_refl _)
  rw [List.range_succ, List.flatMap_append]
  by_cases hjn : j < n * s
  ·rw [List.getElem?_append_left (by omega)]
   exact flat_get hs cs n (fun i hi => h i (by omega)) j hjn
  ·rw [List.getElem?_append_right (by omega), hl]
   simp only [List.flatMap_cons, List.flatMap_nil, List.append_nil]
   have e0 : (n + 1) * s = n * s + s := by rw [Nat.add_mul, Nat.one_mul]
   have e1 : j / s = n := Nat.div_eq_of_lt_le (by omega) (by rw [Nat.add_mul, Nat.one_mul]; omega)
   have e2 : j % s = j - n * s := by
    have := Nat.div_add_mod j s
    rw [e1, Nat.mul_comm] at this
    omega
   rw [e1, e2]
theorem slr_of {A : Option Addr} {n c s : Nat} (hs : 0 < s) (cs : Nat → List Value) (hnc : n ≤ c) (hcm : c ≤ maxLen) (hA : 0 < n → ∃ a, A = some a ∧ ∀ i, i < n → W.cells? base (a.add (i * s)) s = some (cs i)) :
  SlR W A n c s ((List.range n).flatMap cs) := by
 have hlen : ∀ i, i < n → (cs i).length = s := fun i hi => by
  obtain ⟨a, _, h⟩ := hA (by omega)
  exact (World.cells?_some (h i hi)).2.1
 refine ⟨?_, hnc, hcm, fun hn => ?_⟩
 ·clear hA
  have : ∀ m, m ≤ n → ((List.range m).flatMap cs).length = m * s := by
   intro m
   induction m with
   | zero => intro _; simp
   | succ m ih =>
    intro hm
    rw [List.range_succ, List.flatMap_append, List.length_append, ih (by omega)]
    simp only [List.flatMap_cons, List.flatMap_nil, List.append_nil, hlen m (by omega)]
    rw [Nat.add_mul, Nat.one_mul]
  exact this n (Nat.le_refl _)
 ·obtain ⟨a, rfl, h⟩ := hA hn
  obtain ⟨bb, oo, sp⟩ := a
  have h0 := (World.cells?_some (h 0 hn)).2.2 0 hs
  have hl0 := hlen 0 hn
  have hsp : sp = none := by
   have hc0 : W.cell? ⟨bb, oo, sp⟩ = (cs 0)[0]? := by simpa [Addr.add] using h0
   rw [List.getElem?_eq_getElem (by omega)] at hc0
   unfold World.cell? at hc0
   cases sp with
   | none => rfl
   | some q => split at hc0 <;> simp at hc0
  subst hsp
  refine ⟨bb, oo, rfl, fun j v hv => ?_⟩
  have hj : j < n * s := by
   have h1 := (List.getElem?_eq_some_iff.1 hv).1
   have h2 : ((List.range n).flatMap cs).length = n * s := by
    clear hv h1
    have : ∀ m, m ≤ n → ((List.range m).flatMap cs).length = m * s := by
     intro m
     induction m with
     | zero => intro _; simp
     | succ m ih =>
      intro hm
      rw [List.range_succ, List.flatMap_append, List.length_append, ih (by omega)]
      simp only [List.flatMap_cons, List.flatMap_nil, List.append_nil, hlen m (by omega)]
      rw [Nat.add_mul, Nat.one_mul]
    exact this n (Nat.le_refl _)
   omega
  rw [flat_get hs cs n hlen j hj] at hv
  have hi : j / s < n := Nat.div_lt_of_lt_mul (by rw [Nat.mul_comm]; exact hj)
  have h3 := (World.cells?_some (h (j / s) hi)).2.2 (j % s) (Nat.mod_lt _ hs)
  rw [Addr.add_mid, Addr.add_mid] at h3
  rw [← hv, ← h3]
  congr 2
  have := Nat.div_add_mod j s
  rw [Nat.mul_comm] at this
  omega
theorem choose_below {α : Type} [Inhabited α] {n : Nat} {p : Nat → α → Prop} (h : ∀ i, i < n → ∃ x, p i x) : ∃ f : Nat → α, ∀ i, i < n → p i (f i) := by
 refine ⟨fun i => if hi : i < n then Classical.choose (h i hi) else default, fun i hi => ?_⟩
 simp only [hi, dif_pos]
 exact Classical.choose_spec (h i hi)
theorem open_bytesS {r : Reach} {b0 : Nat} {t e : TypeId} {v : Value} {d : DataW H} {p : List MemPlace} (ht : P.underlying t = some (.slice e)) (he : P.underlying e = some (.int .u8)) (hce : P.cellsOf e = 1)
  (hval : Value.okWide P W r b0 t v) (h : DataW.Trod enc P W base spare held t v d p) :
  ∃ A n c l, v = .slice A n c ∧ SlR W A n c 1 (GK l) ∧ ((d = .nil ∧ n = 0) ∨ ∃ el sp, d = .slice el sp ∧ el.length = n) := by
 obtain ⟨a0, len0, cap0, rfl⟩ := okWide_slice ht hval
 obtain ⟨fuel, hf⟩ := h
 rcases open_slice ht hf with ⟨hcs, hx⟩ | ⟨a, len, cap, m, k, D, Pl, hcs, hb, hl, hm, hmm, hx, hel⟩
 ·simp only [Value.cells, List.cons.injEq, Value.slice.injEq, and_true] at hcs
  obtain ⟨rfl, rfl, rfl⟩ := hcs
  simp only [Prod.mk.injEq] at hx
  exact ⟨none, 0, 0, [], rfl, SlR.nil_ W 1, .inl ⟨hx.1, rfl⟩⟩
 ·simp only [Value.cells, List.cons.injEq, Value.slice.injEq, and_true] at hcs
  obtain ⟨rfl, rfl, rfl⟩ := hcs
  simp only [Prod.mk.injEq] at hx
  rw [hce] at hel
  have hlm : len0 ≤ m := by rw [hmm]; split <;> omega
  obtain ⟨bs, hbs⟩ := choose_below (α := UInt8) (n := len0) (p := fun i b => W.cells? base (a.add (i * 1)) 1 = some [JC b]) (fun i hi => by
   obtain ⟨cs', h1, h2⟩ := hel i (by omega)
   match cs', (World.cells?_some h1).2.1 with
   | [x], _ =>
    obtain ⟨b, rfl⟩ := byte_of_trod he h2
    exact ⟨b, h1⟩)
  have hs := slr_of (W := W) (base := base) (A := some a) (n := len0) (c := cap0) (s := 1) (by decide) (fun i => [JC (bs i)]) hl hm (fun _ => ⟨a, rfl, hbs⟩)
  refine ⟨some a, len0, cap0, (List.range len0).map bs, rfl, ?_, .inr ⟨_, _, hx.1, by simp⟩⟩
  have hfl : ∀ l : List Nat, l.flatMap (fun i => [JC (bs i)]) = (l.map bs).map JC := by
   intro l
   induction l with
   | nil => rfl
   | cons x l ih => simp [ih]
  rw [hfl] at hs
  exact hs
theorem reach_le {n b : Nat} (h : n * b ≤ reachBytes) : n * b ≤ 140737488351232 := by
 have : reachBytes = 140737488351232 := by decide
 omega
end
end Go.Proofs.YtaebeemnipafbaaGreatDoor
