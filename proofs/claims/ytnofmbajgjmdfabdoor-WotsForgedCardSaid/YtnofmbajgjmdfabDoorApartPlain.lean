/-
  Proved here: the plain law behind WotsApart: of two digests that differ each has a digit that is less than the other one's; the digits' bounds and their sum. No condition; no program in sight.
-/
import Derived.Test.YtnofmbajgjmdfabDoorDigits
namespace Go.Proofs.YtnofmbajgjmdfabDoor

theorem nibs_le (d : List UInt8) : ∀ x ∈ nibs d, x ≤ 15 := by
  intro x hx
  obtain ⟨b, _, hb⟩ := List.mem_flatMap.1 hx
  have := UInt8.toNat_lt b
  simp only [List.mem_cons, List.not_mem_nil, or_false] at hb
  rcases hb with rfl | rfl <;> omega

theorem lack_sum (d : List UInt8) : ((nibs d).map (15 - ·)).sum = lack d := by
  induction d with
  | nil => rfl
  | cons b d ih =>
    have := UInt8.toNat_lt b
    simp only [nibs, lack, List.flatMap_cons, List.map_append, List.sum_append, List.map_cons, List.sum_cons, List.map_nil, List.sum_nil] at ih ⊢
    omega

theorem digits_le (d : Dig) : ∀ x ∈ digitsN d.l, x ≤ 15 := by
  intro x hx
  have hl := lack_le d.l
  have := d.h
  rcases List.mem_append.1 hx with hx | hx
  · exact nibs_le d.l x hx
  · simp only [List.mem_cons, List.not_mem_nil, or_false] at hx
    rcases hx with rfl | rfl | rfl <;> omega

/-- the sum of what the first k digits lack, of the first 64 alone -/
def sumTo (a : List Nat) (k : Nat) : Nat := ((a.take (min k 64)).map (15 - ·)).sum
theorem sumTo_succ (a : List Nat) (k : Nat) (h : k < 64) (hl : k < a.length) : sumTo a (k + 1) = sumTo a k + (15 - a[k]'hl) := by
  unfold sumTo
  rw [show min (k + 1) 64 = k + 1 by omega, show min k 64 = k by omega, List.take_succ_eq_append_getElem hl, List.map_append, List.sum_append]
  simp
theorem sumTo_past (a : List Nat) (k : Nat) (h : 64 ≤ k) : sumTo a (k + 1) = sumTo a k := by
  unfold sumTo
  rw [show min (k + 1) 64 = 64 by omega, show min k 64 = 64 by omega]
theorem sumTo_le (a : List Nat) (k : Nat) : sumTo a k ≤ 15 * 64 := by
  unfold sumTo
  have h : ∀ l : List Nat, (l.map (15 - ·)).sum ≤ 15 * l.length := by
    intro l
    induction l with
    | nil => simp
    | cons x l ih => simp only [List.map_cons, List.sum_cons, List.length_cons]; omega
  have := h (a.take (min k 64))
  rw [List.length_take] at this
  omega

theorem digits_sum (d : Dig) : sumTo (digitsN d.l) 67 = (digitsN d.l).getD 64 0 * 256 + (digitsN d.l).getD 65 0 * 16 + (digitsN d.l).getD 66 0 := by
  have hl : (nibs d.l).length = 64 := by rw [length_nibs, d.h]
  have h0 : sumTo (digitsN d.l) 67 = lack d.l := by
    unfold sumTo digitsN
    rw [show min 67 64 = 64 by omega, List.take_append_of_le_length (by omega), List.take_of_length_le (by omega), lack_sum]
  have h1 : (digitsN d.l).getD 64 0 = lack d.l / 256 := by simp [digitsN, hl]
  have h2 : (digitsN d.l).getD 65 0 = lack d.l / 16 % 16 := by simp [digitsN, hl]
  have h3 : (digitsN d.l).getD 66 0 = lack d.l % 16 := by simp [digitsN, hl]
  rw [h0, h1, h2, h3]
  omega

/-- has one of the first k digits of a less than b's? -/
def lessTo (a b : List Nat) (k : Nat) : Bool := (List.range k).any fun i => decide (a.getD i 0 < b.getD i 0)
theorem lessTo_succ (a b : List Nat) (k : Nat) : lessTo a b (k + 1) = (lessTo a b k || decide (a.getD k 0 < b.getD k 0)) := by
  simp [lessTo, List.range_succ]
theorem lessTo_self (a : List Nat) (k : Nat) : lessTo a a k = false := by
  simp [lessTo]
theorem lessTo_spec {a b : List Nat} {k : Nat} (h : lessTo a b k = false) (i : Nat) (hi : i < k) : b.getD i 0 ≤ a.getD i 0 := by
  simp only [lessTo, List.any_eq_false, List.mem_range, decide_eq_true_eq] at h
  have := h i hi
  omega

theorem nibs_inj : ∀ (a b : List UInt8), nibs a = nibs b → a = b
  | [], [], _ => rfl
  | [], y :: b, h => by simp [nibs] at h
  | x :: a, [], h => by simp [nibs] at h
  | x :: a, y :: b, h => by
    simp only [nibs, List.flatMap_cons, List.cons_append, List.nil_append, List.cons.injEq] at h
    have hxy : x = y := UInt8.toNat_inj.1 (by omega)
    rw [hxy, nibs_inj a b h.2.2]

theorem sum_le : ∀ (a b : List Nat), a.length = b.length → (∀ i, b.getD i 0 ≤ a.getD i 0) → (∀ x ∈ a, x ≤ 15) → (a.map (15 - ·)).sum ≤ (b.map (15 - ·)).sum ∧ ((a.map (15 - ·)).sum = (b.map (15 - ·)).sum → a = b)
  | [], [], _, _, _ => ⟨Nat.le_refl _, fun _ => rfl⟩
  | [], _ :: _, h, _, _ => by simp at h
  | _ :: _, [], h, _, _ => by simp at h
  | x :: a, y :: b, hl, h, h15 => by
    have h0 := h 0
    simp at h0
    have ih := sum_le a b (by simpa using hl) (fun i => by have := h (i + 1); simpa using this) (fun z hz => h15 z (by simp [hz]))
    have hx := h15 x (by simp)
    simp only [List.map_cons, List.sum_cons]
    refine ⟨by omega, fun e => ?_⟩
    have hxy : x = y := by omega
    rw [hxy, ih.2 (by omega)]

/-- two digests, the first with no digit less than the other one's, are one -/
theorem apart_law (m o : Dig) (h : lessTo (digitsN m.l) (digitsN o.l) 67 = false) : m = o := by
  have hlm : (nibs m.l).length = 64 := by rw [length_nibs, m.h]
  have hlo : (nibs o.l).length = 64 := by rw [length_nibs, o.h]
  have hg : ∀ i, i < 64 → (nibs o.l).getD i 0 ≤ (nibs m.l).getD i 0 := by
    intro i hi
    have := lessTo_spec h i (by omega)
    simpa [digitsN, List.getElem?_append, hlm, hlo, hi] using this
  have hg' : ∀ i, (nibs o.l).getD i 0 ≤ (nibs m.l).getD i 0 := by
    intro i
    by_cases hi : i < 64
    · exact hg i hi
    · have e1 : (nibs o.l).getD i 0 = 0 := by simp [List.getElem?_eq_none (show (nibs o.l).length ≤ i by omega)]
      omega
  obtain ⟨hle, heq⟩ := sum_le (nibs m.l) (nibs o.l) (by omega) hg' (nibs_le m.l)
  rw [lack_sum, lack_sum] at hle heq
  have t0 := lessTo_spec h 64 (by omega)
  have t1 := lessTo_spec h 65 (by omega)
  have t2 := lessTo_spec h 66 (by omega)
  simp [digitsN, hlm, hlo] at t0 t1 t2
  exact Dig.ext' (nibs_inj _ _ (heq (by omega)))

end Go.Proofs.YtnofmbajgjmdfabDoor
