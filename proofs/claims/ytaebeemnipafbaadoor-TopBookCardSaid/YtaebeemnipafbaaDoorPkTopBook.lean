/-
  Proved here: TopBook: the law returns true for every input, and leaves its arguments as they were.
-/
import Derived.Test.YtaebeemnipafbaaDoorPkLookX
import Derived.Test.YtaebeemnipafbaaDoorPkPinHonestA
import Derived.Lib.Bytealg
import Derived.Test.YtaebeemnipafbaaDoorForkP
import Derived.Test.YtaebeemnipafbaaDoorShelf
import Derived.Test.YtaebeemnipafbaaDoorSkip
import Derived.Deep.LoopGhost
import Derived.Test.YtaebeemnipafbaaDoorOpenB
import Derived.Test.YtaebeemnipafbaaDoorCards
import Derived.Test.YtaebeemnipafbaaDoorTie
import Derived.Deep.DeepHandedRow
import Derived.ProofKit
import Derived.OpenShut
set_option maxRecDepth 20000
set_option linter.unusedSimpArgs false
set_option linter.unusedVariables false
namespace Go.Proofs.YtaebeemnipafbaaDoor
open Go.Lib (compareBytes)
theorem cmp_self : ∀ a, compareBytes a a = 0
 | [] => rfl
 | x :: a => by
  have h : ¬ x < x := UInt8.lt_irrefl x
  rw [compareBytes, if_neg h, if_neg h]
  exact cmp_self a
theorem cmp_anti : ∀ a b, compareBytes b a = - compareBytes a b
 | [], [] => rfl
 | [], _ :: _ => rfl
 | _ :: _, [] => rfl
 | x :: a, y :: b => by
  rw [compareBytes, compareBytes]
  by_cases h1 : x < y
  ·have h2 : ¬ y < x := fun h => UInt8.lt_irrefl x (UInt8.lt_trans h1 h)
   rw [if_neg h2, if_pos h1, if_pos h1]; rfl
  ·by_cases h2 : y < x
   ·rw [if_pos h2, if_neg h1, if_pos h2]
   ·rw [if_neg h2, if_neg h1, if_neg h1, if_neg h2]; exact cmp_anti a b
theorem cmp_zero : ∀ {a b}, compareBytes a b = 0 → a = b
 | [], [], _ => rfl
 | [], _ :: _, h => by cases h
 | _ :: _, [], h => by cases h
 | x :: a, y :: b, h => by
  rw [compareBytes] at h
  by_cases h1 : x < y
  ·rw [if_pos h1] at h; cases h
  ·rw [if_neg h1] at h
   by_cases h2 : y < x
   ·rw [if_pos h2] at h; cases h
   ·rw [if_neg h2] at h
    rw [cmp_zero h]
    congr 1
    exact UInt8.le_antisymm (UInt8.not_lt.1 h2) (UInt8.not_lt.1 h1)
theorem cmp_three : ∀ a b, compareBytes a b = -1 ∨ compareBytes a b = 0 ∨ compareBytes a b = 1
 | [], [] => .inr (.inl rfl)
 | [], _ :: _ => .inl rfl
 | _ :: _, [] => .inr (.inr rfl)
 | x :: a, y :: b => by
  rw [compareBytes]
  by_cases h1 : x < y
  ·rw [if_pos h1]; exact .inl rfl
  ·rw [if_neg h1]
   by_cases h2 : y < x
   ·rw [if_pos h2]; exact .inr (.inr rfl)
   ·rw [if_neg h2]; exact cmp_three a b
theorem cmp_trans : ∀ {a b c}, compareBytes a b = -1 → compareBytes b c = -1 → compareBytes a c = -1
 | [], [], _, h, _ => by cases h
 | _ :: _, [], _, h, _ => by cases h
 | _, _ :: _, [], _, h => by cases h
 | [], _ :: _, _ :: _, _, _ => rfl
 | x :: a, y :: b, z :: c, h, h' => by
  rw [compareBytes] at h h' ⊢
  by_cases h1 : x < y
  ·by_cases h2 : y < z
   ·rw [if_pos (UInt8.lt_trans h1 h2)]
   ·rw [if_neg h2] at h'
    by_cases h3 : z < y
    ·rw [if_pos h3] at h'; cases h'
    ·have : y = z := UInt8.le_antisymm (UInt8.not_lt.1 h3) (UInt8.not_lt.1 h2)
     rw [if_pos (this ▸ h1)]
  ·rw [if_neg h1] at h
   by_cases h4 : y < x
   ·rw [if_pos h4] at h; cases h
   ·rw [if_neg h4] at h
    have e : x = y := UInt8.le_antisymm (UInt8.not_lt.1 h4) (UInt8.not_lt.1 h1)
    subst e
    by_cases h2 : x < z
    ·rw [if_pos h2]
    ·rw [if_neg h2] at h' ⊢
     by_cases h3 : z < x
     ·rw [if_pos h3] at h'; cases h'
     ·rw [if_neg h3] at h' ⊢
      exact cmp_trans h h'
theorem less_cmp : ∀ a b, Go.Op.bytesLess a b = decide (compareBytes a b = -1)
 | [], [] => rfl
 | [], _ :: _ => rfl
 | _ :: _, [] => rfl
 | x :: a, y :: b => by
  rw [compareBytes, Go.Op.bytesLess]
  by_cases h1 : x < y
  ·rw [if_pos h1, decide_eq_true h1]; rfl
  ·rw [if_neg h1, decide_eq_false h1]
   by_cases h2 : y < x
   ·have : (x == y) = false := beq_eq_false_iff_ne.2 (fun e => h1 (e ▸ (e ▸ h2)))
    rw [if_pos h2, this]; rfl
   ·have e : x = y := UInt8.le_antisymm (UInt8.not_lt.1 h2) (UInt8.not_lt.1 h1)
    rw [if_neg h2, less_cmp a b, e]
    simp
theorem cmp_ne {a b : List UInt8} (h : compareBytes a b = -1) : a ≠ b := fun e => by rw [e, cmp_self] at h; cases h
instance (x y : NoteN) : Decidable (x = y) := decidable_of_iff (x.name = y.name ∧ x.key = y.key ∧ x.turn = y.turn) ⟨fun h => NoteN.ext' h.1 h.2.1 h.2.2, fun h => by rw [h]; exact ⟨rfl, rfl, rfl⟩⟩
def rkC (c : NoteN) : Int := (c.turn + 1).tdiv 2
def bothC (x y : NoteN) : NoteN := if rkC y < rkC x ∨ x = y then x else if rkC x < rkC y then y else ⟨x.name, zeroD, 2 * rkC x⟩
def contE (p : Option (List UInt8)) (c : NoteN) : Nat :=
 if isNm c.name = true then (if (∃ q, p = some q ∧ compareBytes c.name q ≠ 1) then 7 else if c.turn < 1 ∨ 4 < c.turn then 2 else if (c.key = zeroD) ↔ (c.turn.tmod 2 = 0) then 0 else 9) else 1
def checkFrom : Option (List UInt8) → List NoteN → Nat
 | _, [] => 0
 | p, c :: b => if contE p c = 0 then checkFrom (some c.name) b else contE p c
def checkE (b : List NoteN) : Nat := if 40 < b.length then 4 else checkFrom none b
def mergeN : List NoteN → List NoteN → List NoteN
 | [], b => b
 | x :: a, [] => x :: a
 | x :: a, y :: b => if compareBytes x.name y.name = -1 then x :: mergeN a (y :: b) else if compareBytes x.name y.name = 1 then y :: mergeN (x :: a) b else bothC x y :: mergeN a b
termination_by a b => a.length + b.length
theorem merge_nil : ∀ a, mergeN a [] = a
 | [] => by rw [mergeN]
 | x :: a => by rw [mergeN]
theorem merge_nil' (b : List NoteN) : mergeN [] b = b := by rw [mergeN]
theorem merge_lt {x y : NoteN} {a b : List NoteN} (h : compareBytes x.name y.name = -1) : mergeN (x :: a) (y :: b) = x :: mergeN a (y :: b) := by rw [mergeN, if_pos h]
theorem merge_gt {x y : NoteN} {a b : List NoteN} (h : compareBytes x.name y.name = 1) : mergeN (x :: a) (y :: b) = y :: mergeN (x :: a) b := by rw [mergeN, if_neg (by rw [h]; decide), if_pos h]
theorem merge_eq {x y : NoteN} {a b : List NoteN} (h : compareBytes x.name y.name = 0) : mergeN (x :: a) (y :: b) = bothC x y :: mergeN a b := by rw [mergeN, if_neg (by rw [h]; decide), if_neg (by rw [h]; decide)]
theorem length_merge : ∀ (n : Nat) (a b : List NoteN), a.length + b.length ≤ n → (mergeN a b).length ≤ a.length + b.length
 | _, [], b, _ => by rw [merge_nil']; simp
 | _, x :: a, [], _ => by rw [merge_nil]; simp
 | 0, x :: a, y :: b, h => by simp at h
 | n + 1, x :: a, y :: b, h => by
  simp only [List.length_cons] at h
  rcases cmp_three x.name y.name with c | c | c
  ·have := length_merge n a (y :: b) (by simp only [List.length_cons]; omega)
   rw [merge_lt c]; simp only [List.length_cons] at this ⊢; omega
  ·have := length_merge n a b (by omega)
   rw [merge_eq c]; simp only [List.length_cons] at this ⊢; omega
  ·have := length_merge n (x :: a) b (by simp only [List.length_cons]; omega)
   rw [merge_gt c]; simp only [List.length_cons] at this ⊢; omega
def joinE (a b : List NoteN) : Nat := if checkE a = 0 then (if checkE b = 0 then (if 40 < (mergeN a b).length then 4 else 0) else checkE b) else checkE a
theorem both_self (x : NoteN) : bothC x x = x := if_pos (.inr rfl)
theorem merge_self : ∀ a, mergeN a a = a
 | [] => merge_nil' []
 | x :: a => by rw [merge_eq (cmp_self _), both_self, merge_self a]
def SortB (b : List NoteN) : Prop := b.Pairwise fun x y => compareBytes x.name y.name = -1
def OkC (K : List UInt8 → Dig) (c : NoteN) : Prop := isNm c.name = true ∧ c.key = K c.name ∧ c.key ≠ zeroD ∧ (c.turn = 1 ∨ c.turn = 3)
def hasL (b : List NoteN) (s : List UInt8) (l : Int) : Prop := ∃ c ∈ b, c.name = s ∧ l ≤ c.turn
theorem ok_contE {K : List UInt8 → Dig} {c : NoteN} (h : OkC K c) (p : Option (List UInt8)) (hp : ∀ q, p = some q → compareBytes q c.name = -1) : contE p c = 0 := by
 obtain ⟨h1, h2, h3, h4⟩ := h
 unfold contE
 rw [if_pos h1, if_neg, if_neg, if_pos]
 ·constructor
  ·intro e; exact absurd e h3
  ·intro e; rcases h4 with h | h <;> rw [h] at e <;> cases e
 ·omega
 ·rintro ⟨q, e, hq⟩
  have := hp q e
  rw [cmp_anti, this] at hq
  exact hq rfl
theorem ok_from {K : List UInt8 → Dig} : ∀ (b : List NoteN) (p : Option (List UInt8)), SortB b → (∀ c ∈ b, OkC K c) → (∀ q, p = some q → ∀ c ∈ b, compareBytes q c.name = -1) → checkFrom p b = 0
 | [], _, _, _, _ => rfl
 | c :: b, p, hs, hk, hp => by
  have h0 := ok_contE (hk c (by simp)) p (fun q e => hp q e c (by simp))
  obtain ⟨h1, h2⟩ := List.pairwise_cons.1 hs
  rw [checkFrom, if_pos h0]
  exact ok_from b _ h2 (fun c' h => hk c' (List.mem_cons_of_mem _ h)) (fun q e c' h => by cases e; exact h1 c' h)
theorem ok_check {K : List UInt8 → Dig} {b : List NoteN} (hs : SortB b) (hk : ∀ c ∈ b, OkC K c) (hl : b.length ≤ 40) : checkE b = 0 := by
 unfold checkE
 rw [if_neg (by omega)]
 exact ok_from b none hs hk (fun q e => by cases e)
theorem ok_both {K : List UInt8 → Dig} {x y : NoteN} (hx : OkC K x) (hy : OkC K y) (hn : x.name = y.name) : bothC x y = if x.turn < y.turn then y else x := by
 obtain ⟨-, h1, -, h2⟩ := hx
 obtain ⟨-, h3, -, h4⟩ := hy
 have hk : x.key = y.key := by rw [h1, h3, hn]
 unfold bothC rkC
 rcases h2 with h2 | h2 <;> rcases h4 with h4 | h4 <;> rw [h2, h4]
 ·rw [if_pos (.inr (NoteN.ext' hn hk (by rw [h2, h4]))), if_neg (by decide)]
 ·rw [if_neg, if_pos (by decide), if_pos (by decide)]
  rintro (h | h)
  ·exact absurd h (by decide)
  ·rw [h] at h2; rw [h2] at h4; cases h4
 ·rw [if_pos (.inl (by decide)), if_neg (by decide)]
 ·rw [if_pos (.inr (NoteN.ext' hn hk (by rw [h2, h4]))), if_neg (by decide)]
theorem ins_names : ∀ (b : List NoteN) (x : NoteN) {K : List UInt8 → Dig}, (∀ c ∈ b, OkC K c) → OkC K x → ∀ c ∈ mergeN b [x], (c = x ∨ c ∈ b)
 | [], x, _, _, _, c, h => by rw [merge_nil'] at h; exact .inl (List.mem_singleton.1 h)
 | y :: b, x, K, hb, hx, c, h => by
  rcases cmp_three y.name x.name with e | e | e
  ·rw [merge_lt e] at h
   rcases List.mem_cons.1 h with rfl | h
   ·exact .inr (by simp)
   ·rcases ins_names b x (fun c h => hb c (List.mem_cons_of_mem _ h)) hx c h with h | h
    ·exact .inl h
    ·exact .inr (List.mem_cons_of_mem _ h)
  ·rw [merge_eq e, merge_nil, ok_both (hb y (by simp)) hx (cmp_zero e)] at h
   rcases List.mem_cons.1 h with rfl | h
   ·by_cases c : y.turn < x.turn
    ·rw [if_pos c]; exact .inl rfl
    ·rw [if_neg c]; exact .inr (by simp)
   ·exact .inr (List.mem_cons_of_mem _ h)
  ·rw [merge_gt e, merge_nil] at h
   rcases List.mem_cons.1 h with rfl | h
   ·exact .inl rfl
   ·exact .inr h
theorem ins_sort : ∀ (b : List NoteN) (x : NoteN) {K : List UInt8 → Dig}, SortB b → (∀ c ∈ b, OkC K c) → OkC K x → SortB (mergeN b [x])
 | [], x, _, _, _, _ => by rw [merge_nil']; exact List.pairwise_singleton _ _
 | y :: b, x, K, hs, hb, hx => by
  obtain ⟨h1, h2⟩ := List.pairwise_cons.1 hs
  have hb' : ∀ c ∈ b, OkC K c := fun c h => hb c (List.mem_cons_of_mem _ h)
  rcases cmp_three y.name x.name with e | e | e
  ·rw [merge_lt e]
   refine List.pairwise_cons.2 ⟨fun c h => ?_, ins_sort b x h2 hb' hx⟩
   rcases ins_names b x hb' hx c h with rfl | h
   ·exact e
   ·exact h1 c h
  ·rw [merge_eq e, merge_nil, ok_both (hb y (by simp)) hx (cmp_zero e)]
   refine List.pairwise_cons.2 ⟨fun c h => ?_, h2⟩
   split
   ·rw [← cmp_zero e]; exact h1 c h
   ·exact h1 c h
  ·rw [merge_gt e, merge_nil]
   have e' : compareBytes x.name y.name = -1 := by rw [cmp_anti, e]
   refine List.pairwise_cons.2 ⟨fun c h => ?_, hs⟩
   rcases List.mem_cons.1 h with rfl | h
   ·exact e'
   ·exact cmp_trans e' (h1 c h)
theorem ins_has : ∀ (b : List NoteN) (x : NoteN) {K : List UInt8 → Dig}, (∀ c ∈ b, OkC K c) → OkC K x → ∀ s l, hasL (mergeN b [x]) s l ↔ hasL b s l ∨ (x.name = s ∧ l ≤ x.turn)
 | [], x, _, _, _, s, l => by rw [merge_nil']; simp [hasL]
 | y :: b, x, K, hb, hx, s, l => by
  have cons : ∀ (z : NoteN) (q : List NoteN), hasL (z :: q) s l ↔ (z.name = s ∧ l ≤ z.turn) ∨ hasL q s l := fun z q => by simp [hasL]
  rcases cmp_three y.name x.name with e | e | e
  ·rw [merge_lt e, cons, cons, ins_has b x (fun c h => hb c (List.mem_cons_of_mem _ h)) hx s l, or_assoc]
  ·rw [merge_eq e, merge_nil, ok_both (hb y (by simp)) hx (cmp_zero e), cons, cons]
   have hn := cmp_zero e
   by_cases c : y.turn < x.turn
   ·rw [if_pos c, hn]
    constructor
    ·rintro (h | h)
     ·exact .inr h
     ·exact .inl (.inr h)
    ·rintro ((h | h) | h)
     ·exact .inl ⟨h.1, by omega⟩
     ·exact .inr h
     ·exact .inl h
   ·rw [if_neg c, hn]
    constructor
    ·rintro (h | h)
     ·exact .inl (.inl h)
     ·exact .inl (.inr h)
    ·rintro ((h | h) | h)
     ·exact .inl h
     ·exact .inr h
     ·exact .inl ⟨h.1, by omega⟩
  ·rw [merge_gt e, merge_nil, cons]
   exact or_comm
theorem sort_ext : ∀ {a b : List NoteN}, SortB a → SortB b → (∀ c, c ∈ a ↔ c ∈ b) → a = b
 | [], [], _, _, _ => rfl
 | [], y :: b, _, _, h => by have := (h y).2 (by simp); cases this
 | x :: a, [], _, _, h => by have := (h x).1 (by simp); cases this
 | x :: a, y :: b, ha, hb, h => by
  obtain ⟨a1, a2⟩ := List.pairwise_cons.1 ha
  obtain ⟨b1, b2⟩ := List.pairwise_cons.1 hb
  have e : x = y := by
   rcases List.mem_cons.1 ((h x).1 (by simp)) with e | hx
   ·exact e
   ·rcases List.mem_cons.1 ((h y).2 (by simp)) with e | hy
    ·exact e.symm
    ·have h1 := b1 x hx
     have h2 := a1 y hy
     rw [cmp_anti, h2] at h1
     cases h1
  subst e
  congr 1
  refine sort_ext a2 b2 fun c => ?_
  constructor
  ·intro hc
   rcases List.mem_cons.1 ((h c).1 (List.mem_cons_of_mem _ hc)) with e | h
   ·exact absurd rfl (e ▸ cmp_ne (a1 c hc))
   ·exact h
  ·intro hc
   rcases List.mem_cons.1 ((h c).2 (List.mem_cons_of_mem _ hc)) with e | h
   ·exact absurd rfl (e ▸ cmp_ne (b1 c hc))
   ·exact h
theorem sort_name {b : List NoteN} (hs : SortB b) : ∀ c ∈ b, ∀ d ∈ b, c.name = d.name → c = d := by
 induction b with
 | nil => intro c h; cases h
 | cons x b ih =>
  obtain ⟨h1, h2⟩ := List.pairwise_cons.1 hs
  intro c hc d hd hn
  rcases List.mem_cons.1 hc with e1 | k1
  ·rcases List.mem_cons.1 hd with e2 | k2
   ·rw [e1, e2]
   ·rw [e1] at hn; exact absurd hn (cmp_ne (h1 d k2))
  ·rcases List.mem_cons.1 hd with e2 | k2
   ·rw [e2] at hn; exact absurd hn.symm (cmp_ne (h1 c k1))
   ·exact ih h2 c k1 d k2 hn
theorem has_ext {K : List UInt8 → Dig} {a b : List NoteN} (ha : SortB a) (hb : SortB b) (ka : ∀ c ∈ a, OkC K c) (kb : ∀ c ∈ b, OkC K c) (h : ∀ s l, hasL a s l ↔ hasL b s l) : a = b := by
 have half : ∀ {a b : List NoteN}, SortB a → (∀ c ∈ a, OkC K c) → (∀ c ∈ b, OkC K c) → (∀ s l, hasL a s l ↔ hasL b s l) → ∀ c ∈ a, c ∈ b := by
  intro a b ha ka kb h c hc
  obtain ⟨d, hd, hn, hl⟩ := (h c.name c.turn).1 ⟨c, hc, rfl, Int.le_refl _⟩
  obtain ⟨e, he, hn2, hl2⟩ := (h d.name d.turn).2 ⟨d, hd, rfl, Int.le_refl _⟩
  have e1 := sort_name ha e he c hc (hn2.trans hn)
  rw [e1] at hl2
  have : c = d := NoteN.ext' hn.symm (by rw [(ka c hc).2.1, (kb d hd).2.1, hn]) (by omega)
  rw [this]
  exact hd
 exact sort_ext ha hb fun c => ⟨half ha ka kb h c, half hb kb ka (fun s l => (h s l).symm) c⟩
def lvlB (t : Bool) : Int := if t then 3 else 1
def toldN (ns : List NoteN) (s : List UInt8) : Nat × Option NoteN := lookN (ns.length : Int) (rootN (lvN ns)) (mapN ns) s (findN ns s)
def heardB (ns : List NoteN) (b : List NoteN) (s : List UInt8) (t : Bool) : Option (List NoteN) :=
 if isNm s = true then
  if (toldN ns s).1 = 0 then
   match (toldN ns s).2 with
   | none => some b
   | some n => if joinE b [⟨s, n.key, lvlB t⟩] = 0 then some (mergeN b [⟨s, n.key, lvlB t⟩]) else none
  else none
 else none
def keyK (ns : List NoteN) (s : List UInt8) : Dig := match (toldN ns s).2 with | some n => n.key | none => zeroD
structure Bk (ns : List NoteN) (S : List (List UInt8 × Bool)) (b : List NoteN) : Prop where
 sort : SortB b
 ok : ∀ c ∈ b, OkC (keyK ns) c
 len : b.length ≤ S.length
 has : ∀ s l, hasL b s l ↔ ∃ p ∈ S, p.1 = s ∧ (toldN ns s).2.isSome = true ∧ l ≤ lvlB p.2
theorem Bk.nil (ns : List NoteN) : Bk ns [] [] := ⟨List.Pairwise.nil, by simp, by simp, by simp [hasL]⟩
theorem check_one {x : NoteN} (h : checkE [x] = 0) : contE none x = 0 := by
 unfold checkE at h
 rw [if_neg (by simp)] at h
 rw [checkFrom] at h
 by_cases c : contE none x = 0
 ·exact c
 ·rw [if_neg c] at h; exact absurd h c
theorem joinE_right {a b : List NoteN} (h : joinE a b = 0) : checkE b = 0 := by
 unfold joinE at h
 by_cases c : checkE a = 0
 ·rw [if_pos c] at h
  by_cases c2 : checkE b = 0
  ·exact c2
  ·rw [if_neg c2] at h; exact absurd h c2
 ·rw [if_neg c] at h; exact absurd h c
theorem Bk.heard {ns : List NoteN} {S : List (List UInt8 × Bool)} {b b' : List NoteN} (h : Bk ns S b) {s : List UInt8} {t : Bool} (he : heardB ns b s t = some b') : Bk ns (S ++ [(s, t)]) b' := by
 unfold heardB at he
 by_cases h1 : isNm s = true
 ·rw [if_pos h1] at he
  by_cases h2 : (toldN ns s).1 = 0
  ·rw [if_pos h2] at he
   cases h3 : (toldN ns s).2 with
   | none =>
    rw [h3] at he
    obtain rfl := Option.some.inj he
    refine ⟨h.sort, h.ok, by have := h.len; simp; omega, fun u l => ?_⟩
    rw [h.has]
    constructor
    ·rintro ⟨p, hp, q⟩; exact ⟨p, by simp [hp], q⟩
    ·rintro ⟨p, hp, q1, q2, q3⟩
     rcases List.mem_append.1 hp with hp | hp
     ·exact ⟨p, hp, q1, q2, q3⟩
     ·rw [List.mem_singleton.1 hp] at q1
      simp only at q1
      rw [← q1, h3] at q2
      cases q2
   | some n =>
    rw [h3] at he
    simp only at he
    by_cases h4 : joinE b [⟨s, n.key, lvlB t⟩] = 0
    ·rw [if_pos h4] at he
     obtain rfl := Option.some.inj he
     have hk : n.key = keyK ns s := by unfold keyK; rw [h3]
     have hlv : lvlB t = 1 ∨ lvlB t = 3 := by cases t <;> simp [lvlB]
     have hz : n.key ≠ zeroD := by
      have := check_one (joinE_right h4)
      unfold contE at this
      rw [if_pos h1, if_neg (by rintro ⟨q, e, -⟩; cases e), if_neg (by simp only; omega)] at this
      by_cases c : (n.key = zeroD) ↔ ((lvlB t).tmod 2 = 0)
      ·intro e
       have := c.1 e
       rcases hlv with h | h <;> rw [h] at this <;> cases this
      ·rw [if_neg c] at this; cases this
     have hx : OkC (keyK ns) ⟨s, n.key, lvlB t⟩ := ⟨h1, hk, hz, hlv⟩
     refine ⟨ins_sort b _ h.sort h.ok hx, fun c hc => ?_, ?_, fun u l => ?_⟩
     ·rcases ins_names b _ h.ok hx c hc with rfl | hc
      ·exact hx
      ·exact h.ok c hc
     ·have := length_merge _ b [⟨s, n.key, lvlB t⟩] (Nat.le_refl _)
      have := h.len
      simp only [List.length_append, List.length_singleton] at *
      omega
     ·rw [ins_has b _ h.ok hx, h.has]
      constructor
      ·rintro (⟨p, hp, q⟩ | ⟨q1, q2⟩)
       ·exact ⟨p, by simp [hp], q⟩
       ·simp only at q1 q2
        exact ⟨(s, t), by simp, q1, by rw [← q1, h3]; rfl, q2⟩
      ·rintro ⟨p, hp, q1, q2, q3⟩
       rcases List.mem_append.1 hp with hp | hp
       ·exact .inl ⟨p, hp, q1, q2, q3⟩
       ·rw [List.mem_singleton.1 hp] at q1 q3
        exact .inr ⟨q1, q3⟩
    ·rw [if_neg h4] at he; cases he
  ·rw [if_neg h2] at he; cases he
 ·rw [if_neg h1] at he; cases he
theorem Bk.same {ns : List NoteN} {S T : List (List UInt8 × Bool)} {a b : List NoteN} (ha : Bk ns S a) (hb : Bk ns T b) (h : ∀ p, p ∈ S ↔ p ∈ T) : a = b :=
 has_ext ha.sort hb.sort ha.ok hb.ok fun s l => by
  rw [ha.has, hb.has]
  constructor
  ·rintro ⟨p, hp, q⟩; exact ⟨p, (h p).1 hp, q⟩
  ·rintro ⟨p, hp, q⟩; exact ⟨p, (h p).2 hp, q⟩
theorem Bk.join {ns : List NoteN} {S : List (List UInt8 × Bool)} {a : List NoteN} (ha : Bk ns S a) (hl : S.length ≤ 40) : joinE a a = 0 ∧ mergeN a a = a := by
 have h := ha.len
 have hc := ok_check ha.sort ha.ok (by omega)
 refine ⟨?_, merge_self a⟩
 unfold joinE
 rw [if_pos hc, if_pos hc, merge_self, if_neg (by omega)]
theorem order_all {n : Nat} {l : List Nat} (hd : l.Nodup) (h : ∀ i ∈ l, i < n) (hl : l.length = n) : ∀ i, i < n → i ∈ l := by
 intro i hi
 by_cases c : i ∈ l
 ·exact c
 ·have := nodup_le n (i :: l) (List.nodup_cons.2 ⟨c, hd⟩) (fun j hj => by
   rcases List.mem_cons.1 hj with rfl | hj
   ·exact hi
   ·exact h j hj)
  rw [List.length_cons] at this
  omega
end Go.Proofs.YtaebeemnipafbaaDoor

set_option maxRecDepth 20000
set_option linter.unusedSimpArgs false
set_option linter.unusedVariables false
namespace Go.Proofs.YtaebeemnipafbaaDoor
open Go.RowKit
attribute [local simp] ntArr_size
theorem el_api_Contact : ElemIs Tryd.prog 138 (.agg (ntArr [] zeroD 0)) 34 56 := by unfold ElemIs; kernel_rfl
section
variable {ops : Array Oper} {rest : List Oper} {o : Oper} {a : Act} {W : World} {Q : Exit → Act → World → Prop} {d : Option Tmp}
theorem L_buildC (hd : o.dst = d) (hw : Region.wanted o (yielded ops a.tmps) = true) {x y z : Operand} (ho : o.op = .build 138 #[(0, x), (1, y), (2, z)]) {s : List UInt8} {q : Dig} {n : Int} (hx : a.eval x = .string (bsOf s)) (hy : a.eval y = .agg q.arr) (hz : a.eval z = .int .i64 n)
  (h : wpList Tryd.prog ops Q rest (a.put d (.agg (ntArr s q n))) W) : wpList Tryd.prog ops Q (o :: rest) a W :=
 L_buildT hd hw ho Tryd.underlying138 el_api_Contact [(0, 1), (1, 32), (33, 1)] (by kernel_rfl) (ps := [(0, .string (bsOf s)), (1, .agg q.arr), (2, .int .i64 n)]) (by simp [hx, hy, hz]) (qs := [(0, [.string (bsOf s)]), (1, q.arr.toList), (33, [.int .i64 n])])
  ⟨rfl, rfl, by simp [ntArr_size], by rw [dig_len]; rfl, rfl, by rw [ntArr_size, dig_len]; decide, rfl, rfl, by simp [ntArr_size], trivial⟩
  (by
   unfold putAll putAll putAll putAll
   rw [ntArr_name, ntArr_putKey]
   exact put_part (cs := ntArr s q 0) (ds := ntArr s q n) (.string (bsOf s) :: q.arr.toList) [.int .i64 0] [.int .i64 n] [] (by rw [ntArr_list]; simp) (by rw [ntArr_list]; simp) rfl (by simp [Dig.size])) h
end
theorem notesL_ones (ns : List NoteN) : ∀ u ∈ notesL ns, u.oneCell' = true := by
 intro u hu
 obtain ⟨n, -, hn⟩ := List.mem_flatMap.1 hu
 exact ntArr_one _ _ _ u hn
theorem notesL_cons (n : NoteN) (ns : List NoteN) : notesL (n :: ns) = n.arr.toList ++ notesL ns := by simp [notesL]
theorem note_lenT {W : World} {A : Option Addr} {n c : Nat} {ns : List NoteN} (h : SlR W A n c 34 (notesL ns)) : ns.length = n := by have := h.1; rw [length_notesL] at this; omega
theorem note_0 {W : World} {g off : Nat} {x : NoteN} {ns : List NoteN} (h : W.rangeAt g (off + (0 : Int).toNat * 34) (((notesL (x :: ns)).drop ((0 : Int).toNat * 34)).take 34)) : W.rangeAt g (off + (0 : Int).toNat * 34) (ntArr x.name x.key x.turn).toList :=
 note_cells (i := 0) (ns := x :: ns) h (by simp)
theorem note_0n {W : World} {g off : Nat} {x : NoteN} {ns : List NoteN} (h : W.rangeAt g (off + (0 : Int).toNat * 34) (((notesL (x :: ns)).drop ((0 : Int).toNat * 34)).take 34)) : W.cell? ⟨g, off + (0 : Int).toNat * 34 + 0, none⟩ = some (.string (bsOf x.name)) :=
 note_name (i := 0) (ns := x :: ns) h (by simp)
theorem notes_tl {W : World} {A : Option Addr} {n c : Nat} {x : NoteN} {ns : List NoteN} (h : SlR W A (n + 1 - 1) c 34 (((notesL (x :: ns)).drop (1 * 34)).take ((n + 1 - 1) * 34))) (hn : ns.length = n) : SlR W A n c 34 (notesL ns) := by
 have e : ((notesL (x :: ns)).drop (1 * 34)).take ((n + 1 - 1) * 34) = notesL ns := by
  rw [notesL_cons, List.drop_left' (by show (ntArr _ _ _).toList.length = _; rw [ntArr_len]), List.take_of_length_le (by rw [length_notesL, hn]; omega)]
 rw [e] at h
 exact h
set_option maxHeartbeats 4000000 in
set_option maxRecDepth 100000 in
theorem both_any {K : List UInt8 → Dig} (x y : NoteN) (w : World) (hx : OkC K x) (hy : OkC K y) (hn : x.name = y.name) :
  Calls Tryd.prog 76 #[.agg (ntArr x.name x.key x.turn), .agg (ntArr y.name y.key y.turn)] w fun e w' => e = .returned (.agg (ntArr (bothC x y).name (bothC x y).key (bothC x y).turn)) ∧ St w w' [] := by
 have hst := St.refl w
 rw [ok_both hx hy hn]
 obtain ⟨-, k1, -, t1⟩ := hx
 obtain ⟨-, k2, -, t2⟩ := hy
 have hk : x.key = y.key := by rw [k1, k2, hn]
 obtain ⟨s, k, n⟩ := x
 obtain ⟨u, d, m⟩ := y
 simp only at *
 subst hn
 subst hk
 clear k1 k2
 rcases t1 with rfl | rfl <;> rcases t2 with rfl | rfl
 ·have HE := Lib.hid (fun w => show (Op.equalIn 10000 138 (.agg (ntArr s k 1)) (.agg (ntArr s k 1))).run Tryd.prog w = .ok true w by rw [eqContact]; simp)
  go_enter Tryd.func76, Tryd.ntmps76
  go_upto_region 1 with (go_big_may; first | (refine L_boxA (d := some 2) rfl rfl rfl (ev_tmp rfl) ?_; (try clear hnew); intro g2 W2 hnew; replace hst := hst.trans hnew; simp only [List.cons_append, List.nil_append] at hst) | (refine L_boxA (d := some 3) rfl rfl rfl (ev_tmp rfl) ?_; (try clear hnew); intro g3 W3 hnew; replace hst := hst.trans hnew; simp only [List.cons_append, List.nil_append] at hst) | (refine L_allocA (d := some 4) rfl rfl rfl el_api_Contact ?_; (try clear hnew); intro g4 W4 hnew; replace hst := hst.trans hnew; simp only [List.cons_append, List.nil_append] at hst))
  refine wp_region_idx [(0, 0), (1, 0), (2, 0), (3, 0), (4, 0), (5, 0), (6, 0), (7, 0), (8, 2), (9, 2)] (by kernel_rfl) (by kernel_rfl) ?_
  replace hst := hst.drew
  refine idx_qf rfl rfl (by kernel_rfl) ?_; go_wp2_with fail
  refine idx_q rfl rfl ?_; go_wp2_with ((refine L_load1 (d := some 8) rfl rfl rfl (by rfl) Tryd.underlying3 rfl (by (exact cell_of (hst.get 2 rfl) ntArr_33)) ?_))
  refine idx_q rfl rfl ?_; go_wp2_with fail
  refine idx_q rfl rfl ?_; go_wp2_with fail
  refine idx_qf rfl rfl (by kernel_rfl) ?_; go_wp2_with fail
  refine idx_q rfl rfl ?_; go_wp2_with ((refine L_load1 (d := some 12) rfl rfl rfl (by rfl) Tryd.underlying3 rfl (by (exact cell_of (hst.get 1 rfl) ntArr_33)) ?_))
  refine idx_q rfl rfl ?_; go_wp2_with fail
  refine idx_q rfl rfl ?_; go_wp2_with fail
  refine idx_g rfl ?_; go_wp2_with fail; refine ⟨by (exact Below.refl _ _), ?_⟩
  refine idx_g rfl ?_; go_wp2_with fail; refine ⟨by (exact Below.refl _ _), ?_⟩
  refine idx_nil ?_
  go_upto_region 3 with (go_big_may; first | (refine L_eqA (d := some 22) rfl rfl rfl eqG_Contact (ev_tmp rfl) (ev_tmp rfl) (HE.out _) ?_) | ((refine L_loadA (d := some 20) rfl rfl rfl (by rfl) Tryd.underlying138 rfl el_api_Contact (by (exact hst.get 2 rfl)) (by (exact ntArr_size _ _ _)) ?_)) | ((refine L_loadA (d := some 21) rfl rfl rfl (by rfl) Tryd.underlying138 rfl el_api_Contact (by (exact hst.get 1 rfl)) (by (exact ntArr_size _ _ _)) ?_)))
  go_wp2_with (first | ((refine L_loadA (d := some 24) rfl rfl rfl (by rfl) Tryd.underlying138 rfl el_api_Contact (by (exact hst.get 2 rfl)) (by (exact ntArr_size _ _ _)) ?_)) | (refine wpl_at (.store 138 (.tmp 4) (.tmp 24)) rfl ?_; (refine L_storeA rfl rfl hst rfl (by rfl) (ev_tmp rfl) (by (exact ntArr_all _ _ _)) el_api_Contact (by (exact ntArr_size _ _ _)) 0 rfl (by (rfl)) ?_; clear hst; intro WS1 hst; simp only [List.set_cons_zero, List.set_cons_succ] at hst)))
  refine bp_cell rfl rfl rfl (hst.get 0 rfl) Tryd.underlying138 rfl el_api_Contact (by (simp; done)) ?_
  exact ⟨rfl, hst.forget⟩
 ·have HE := Lib.hid (fun w => show (Op.equalIn 10000 138 (.agg (ntArr s k 1)) (.agg (ntArr s k 3))).run Tryd.prog w = .ok false w by rw [eqContact]; simp)
  go_enter Tryd.func76, Tryd.ntmps76
  go_upto_region 1 with (go_big_may; first | (refine L_boxA (d := some 2) rfl rfl rfl (ev_tmp rfl) ?_; (try clear hnew); intro g2 W2 hnew; replace hst := hst.trans hnew; simp only [List.cons_append, List.nil_append] at hst) | (refine L_boxA (d := some 3) rfl rfl rfl (ev_tmp rfl) ?_; (try clear hnew); intro g3 W3 hnew; replace hst := hst.trans hnew; simp only [List.cons_append, List.nil_append] at hst) | (refine L_allocA (d := some 4) rfl rfl rfl el_api_Contact ?_; (try clear hnew); intro g4 W4 hnew; replace hst := hst.trans hnew; simp only [List.cons_append, List.nil_append] at hst))
  refine wp_region_idx [(0, 0), (1, 0), (2, 0), (3, 0), (4, 0), (5, 0), (6, 0), (7, 0), (8, 2), (9, 2)] (by kernel_rfl) (by kernel_rfl) ?_
  replace hst := hst.drew
  refine idx_qf rfl rfl (by kernel_rfl) ?_; go_wp2_with fail
  refine idx_q rfl rfl ?_; go_wp2_with ((refine L_load1 (d := some 8) rfl rfl rfl (by rfl) Tryd.underlying3 rfl (by (exact cell_of (hst.get 2 rfl) ntArr_33)) ?_))
  refine idx_q rfl rfl ?_; go_wp2_with fail
  refine idx_q rfl rfl ?_; go_wp2_with fail
  refine idx_qf rfl rfl (by kernel_rfl) ?_; go_wp2_with fail
  refine idx_q rfl rfl ?_; go_wp2_with ((refine L_load1 (d := some 12) rfl rfl rfl (by rfl) Tryd.underlying3 rfl (by (exact cell_of (hst.get 1 rfl) ntArr_33)) ?_))
  refine idx_q rfl rfl ?_; go_wp2_with fail
  refine idx_q rfl rfl ?_; go_wp2_with fail
  refine idx_g rfl ?_; go_wp2_with fail; refine ⟨by (exact Below.refl _ _), ?_⟩
  refine idx_g rfl ?_; go_wp2_with fail; refine ⟨by (exact Below.refl _ _), ?_⟩
  refine idx_nil ?_
  go_upto_region 4 with (go_big_may; first | (refine L_eqA (d := some 22) rfl rfl rfl eqG_Contact (ev_tmp rfl) (ev_tmp rfl) (HE.out _) ?_) | ((refine L_loadA (d := some 20) rfl rfl rfl (by rfl) Tryd.underlying138 rfl el_api_Contact (by (exact hst.get 2 rfl)) (by (exact ntArr_size _ _ _)) ?_)) | ((refine L_loadA (d := some 21) rfl rfl rfl (by rfl) Tryd.underlying138 rfl el_api_Contact (by (exact hst.get 1 rfl)) (by (exact ntArr_size _ _ _)) ?_)))
  go_upto_region 5 with (go_big_may; fail)
  go_wp2_with (first | ((refine L_loadA (d := some 29) rfl rfl rfl (by rfl) Tryd.underlying138 rfl el_api_Contact (by (exact hst.get 1 rfl)) (by (exact ntArr_size _ _ _)) ?_)) | (refine wpl_at (.store 138 (.tmp 4) (.tmp 29)) rfl ?_; (refine L_storeA rfl rfl hst rfl (by rfl) (ev_tmp rfl) (by (exact ntArr_all _ _ _)) el_api_Contact (by (exact ntArr_size _ _ _)) 0 rfl (by (rfl)) ?_; clear hst; intro WS1 hst; simp only [List.set_cons_zero, List.set_cons_succ] at hst)))
  refine bp_cell rfl rfl rfl (hst.get 0 rfl) Tryd.underlying138 rfl el_api_Contact (by (simp; done)) ?_
  exact ⟨rfl, hst.forget⟩
 ·go_enter Tryd.func76, Tryd.ntmps76
  go_upto_region 1 with (go_big_may; first | (refine L_boxA (d := some 2) rfl rfl rfl (ev_tmp rfl) ?_; (try clear hnew); intro g2 W2 hnew; replace hst := hst.trans hnew; simp only [List.cons_append, List.nil_append] at hst) | (refine L_boxA (d := some 3) rfl rfl rfl (ev_tmp rfl) ?_; (try clear hnew); intro g3 W3 hnew; replace hst := hst.trans hnew; simp only [List.cons_append, List.nil_append] at hst) | (refine L_allocA (d := some 4) rfl rfl rfl el_api_Contact ?_; (try clear hnew); intro g4 W4 hnew; replace hst := hst.trans hnew; simp only [List.cons_append, List.nil_append] at hst))
  refine wp_region_idx [(0, 0), (1, 0), (2, 0), (3, 0), (4, 0), (5, 0), (6, 0), (7, 0), (8, 2), (9, 2)] (by kernel_rfl) (by kernel_rfl) ?_
  replace hst := hst.drew
  refine idx_qf rfl rfl (by kernel_rfl) ?_; go_wp2_with fail
  refine idx_q rfl rfl ?_; go_wp2_with ((refine L_load1 (d := some 8) rfl rfl rfl (by rfl) Tryd.underlying3 rfl (by (exact cell_of (hst.get 2 rfl) ntArr_33)) ?_))
  refine idx_q rfl rfl ?_; go_wp2_with fail
  refine idx_q rfl rfl ?_; go_wp2_with fail
  refine idx_qf rfl rfl (by kernel_rfl) ?_; go_wp2_with fail
  refine idx_q rfl rfl ?_; go_wp2_with ((refine L_load1 (d := some 12) rfl rfl rfl (by rfl) Tryd.underlying3 rfl (by (exact cell_of (hst.get 1 rfl) ntArr_33)) ?_))
  refine idx_q rfl rfl ?_; go_wp2_with fail
  refine idx_q rfl rfl ?_; go_wp2_with fail
  refine idx_g rfl ?_; go_wp2_with fail; refine ⟨by (exact Below.refl _ _), ?_⟩
  refine idx_g rfl ?_; go_wp2_with fail; refine ⟨by (exact Below.refl _ _), ?_⟩
  refine idx_nil ?_
  go_upto_region 3 with (go_big_may; fail)
  go_wp2_with (first | ((refine L_loadA (d := some 24) rfl rfl rfl (by rfl) Tryd.underlying138 rfl el_api_Contact (by (exact hst.get 2 rfl)) (by (exact ntArr_size _ _ _)) ?_)) | (refine wpl_at (.store 138 (.tmp 4) (.tmp 24)) rfl ?_; (refine L_storeA rfl rfl hst rfl (by rfl) (ev_tmp rfl) (by (exact ntArr_all _ _ _)) el_api_Contact (by (exact ntArr_size _ _ _)) 0 rfl (by (rfl)) ?_; clear hst; intro WS1 hst; simp only [List.set_cons_zero, List.set_cons_succ] at hst)))
  refine bp_cell rfl rfl rfl (hst.get 0 rfl) Tryd.underlying138 rfl el_api_Contact (by (simp; done)) ?_
  exact ⟨rfl, hst.forget⟩
 ·have HE := Lib.hid (fun w => show (Op.equalIn 10000 138 (.agg (ntArr s k 3)) (.agg (ntArr s k 3))).run Tryd.prog w = .ok true w by rw [eqContact]; simp)
  go_enter Tryd.func76, Tryd.ntmps76
  go_upto_region 1 with (go_big_may; first | (refine L_boxA (d := some 2) rfl rfl rfl (ev_tmp rfl) ?_; (try clear hnew); intro g2 W2 hnew; replace hst := hst.trans hnew; simp only [List.cons_append, List.nil_append] at hst) | (refine L_boxA (d := some 3) rfl rfl rfl (ev_tmp rfl) ?_; (try clear hnew); intro g3 W3 hnew; replace hst := hst.trans hnew; simp only [List.cons_append, List.nil_append] at hst) | (refine L_allocA (d := some 4) rfl rfl rfl el_api_Contact ?_; (try clear hnew); intro g4 W4 hnew; replace hst := hst.trans hnew; simp only [List.cons_append, List.nil_append] at hst))
  refine wp_region_idx [(0, 0), (1, 0), (2, 0), (3, 0), (4, 0), (5, 0), (6, 0), (7, 0), (8, 2), (9, 2)] (by kernel_rfl) (by kernel_rfl) ?_
  replace hst := hst.drew
  refine idx_qf rfl rfl (by kernel_rfl) ?_; go_wp2_with fail
  refine idx_q rfl rfl ?_; go_wp2_with ((refine L_load1 (d := some 8) rfl rfl rfl (by rfl) Tryd.underlying3 rfl (by (exact cell_of (hst.get 2 rfl) ntArr_33)) ?_))
  refine idx_q rfl rfl ?_; go_wp2_with fail
  refine idx_q rfl rfl ?_; go_wp2_with fail
  refine idx_qf rfl rfl (by kernel_rfl) ?_; go_wp2_with fail
  refine idx_q rfl rfl ?_; go_wp2_with ((refine L_load1 (d := some 12) rfl rfl rfl (by rfl) Tryd.underlying3 rfl (by (exact cell_of (hst.get 1 rfl) ntArr_33)) ?_))
  refine idx_q rfl rfl ?_; go_wp2_with fail
  refine idx_q rfl rfl ?_; go_wp2_with fail
  refine idx_g rfl ?_; go_wp2_with fail; refine ⟨by (exact Below.refl _ _), ?_⟩
  refine idx_g rfl ?_; go_wp2_with fail; refine ⟨by (exact Below.refl _ _), ?_⟩
  refine idx_nil ?_
  go_upto_region 3 with (go_big_may; first | (refine L_eqA (d := some 22) rfl rfl rfl eqG_Contact (ev_tmp rfl) (ev_tmp rfl) (HE.out _) ?_) | ((refine L_loadA (d := some 20) rfl rfl rfl (by rfl) Tryd.underlying138 rfl el_api_Contact (by (exact hst.get 2 rfl)) (by (exact ntArr_size _ _ _)) ?_)) | ((refine L_loadA (d := some 21) rfl rfl rfl (by rfl) Tryd.underlying138 rfl el_api_Contact (by (exact hst.get 1 rfl)) (by (exact ntArr_size _ _ _)) ?_)))
  go_wp2_with (first | ((refine L_loadA (d := some 24) rfl rfl rfl (by rfl) Tryd.underlying138 rfl el_api_Contact (by (exact hst.get 2 rfl)) (by (exact ntArr_size _ _ _)) ?_)) | (refine wpl_at (.store 138 (.tmp 4) (.tmp 24)) rfl ?_; (refine L_storeA rfl rfl hst rfl (by rfl) (ev_tmp rfl) (by (exact ntArr_all _ _ _)) el_api_Contact (by (exact ntArr_size _ _ _)) 0 rfl (by (rfl)) ?_; clear hst; intro WS1 hst; simp only [List.set_cons_zero, List.set_cons_succ] at hst)))
  refine bp_cell rfl rfl rfl (hst.get 0 rfl) Tryd.underlying138 rfl el_api_Contact (by (simp; done)) ?_
  exact ⟨rfl, hst.forget⟩
end Go.Proofs.YtaebeemnipafbaaDoor

set_option maxRecDepth 20000
set_option linter.unusedSimpArgs false
set_option linter.unusedVariables false
namespace Go.Proofs.YtaebeemnipafbaaDoor
open Go.RowKit
attribute [local simp] ntArr_size
section
variable {P : Program} {ops : Array Oper} {rest : List Oper} {o : Oper} {a : Act} {W : World} {Q : Exit → Act → World → Prop} {d : Option Tmp}
theorem L_leStr (hd : o.dst = d) (hw : Region.wanted o (yielded ops a.tmps) = true) {t t' : TypeId} {x y : Operand} (ho : o.op = .binOp .leq t x y t') {s u : List UInt8} (hx : a.eval x = .string (bsOf s)) (hy : a.eval y = .string (bsOf u)) {r : Bool} (hr : (Go.Op.bytesLess s u || decide (s = u)) = r)
  (h : wpList P ops Q rest (a.put d (.bool r)) W) : wpList P ops Q (o :: rest) a W := by
 refine L_val hd hw ?_ h
 unfold execOp
 simp only [ho, hx, hy]
 have h2 : (Go.binOp .leq t (.string (bsOf s)) (.string (bsOf u))).run P W = .ok (.bool r) W := by
  have e : (s == u) = decide (s = u) := by by_cases h : s = u <;> simp [h]
  simp only [Go.binOp, Op.stringOp, Sem.run_pure, bsOf_toList, e, hr]
 have h1 : (eqGuard .leq t x y (.string (bsOf s)) (.string (bsOf u))).run P W = .ok () W := by simp [eqGuard, Sem.run]
 simp [h1, h2]
end
theorem le_not {s u : List UInt8} (h : Go.Lib.compareBytes u s = -1) : (Go.Op.bytesLess s u || decide (s = u)) = false := by
 have h1 : ¬ Go.Lib.compareBytes s u = -1 := by rw [cmp_anti, h]; decide
 rw [less_cmp, decide_eq_false h1, decide_eq_false (fun e => cmp_ne h e.symm)]
 rfl
theorem sort_at {b : List NoteN} (h : SortB b) {i : Nat} (h0 : 0 < i) (hi : i < b.length) : Go.Lib.compareBytes (b[i - 1]'(by omega)).name b[i].name = -1 :=
 List.pairwise_iff_getElem.1 h (i - 1) i (by omega) hi (by omega)
set_option maxHeartbeats 8000000 in
set_option maxRecDepth 100000 in
theorem check_ok {K : List UInt8 → Dig} (b : List NoteN) (A : Option Addr) (n c : Nat) (w : World) (hx : SlR w A n c 34 (notesL b)) (hs : SortB b) (hk : ∀ c ∈ b, OkC K c) (hl : n ≤ 40) :
  Calls Tryd.prog 74 #[.slice A n c] w fun e w' => e = .returned .nilIface ∧ St w w' [] := by
 have hst := St.refl w
 have hbl := note_lenT hx
 have HBL := Lib.hid hbl
 have HX := Lib.hid hx
 have HK := Lib.hid (fun (i : Nat) (h : i < b.length) => hk b[i] (List.getElem_mem h))
 have HS := Lib.hid (fun (i : Nat) (h0 : 0 < i) (h : i < b.length) => le_not (sort_at hs h0 h))
 have h40 : ¬ (40 : Int) < (n : Int) := by omega
 clear hx hs hk hbl
 go_enter Tryd.func74, Tryd.ntmps74
 go_upto_region 1 with (go_big_may; fail)
 go_upto_region 3 with (go_big_may; fail)
 go_upto_region 4 with (go_big_may; first | (refine L_build0 (d := some 10) rfl rfl rfl Tryd.underlying30 el_uint8 el_api_Digest ?_) | (refine L_allocA (d := some 3) rfl rfl rfl el_api_Digest ?_; (try clear hnew); intro g3 W3 hnew; replace hst := hst.trans hnew; simp only [List.cons_append, List.nil_append] at hst) | (refine wpl_at (.store 30 (.tmp 3) (.tmp 10)) rfl ?_; (refine L_storeA rfl rfl hst rfl (by rfl) (ev_tmp rfl) (by (exact Dig.one _)) el_api_Digest (by (rfl)) 0 rfl (by (rfl)) ?_; clear hst; intro WS2 hst; simp only [List.set_cons_zero, List.set_cons_succ] at hst)))
 go_wp2_with (fail)
 go_loopg [13, 4, 5] n (fun gk s13 s4 s5 wr => ∃ i : Nat, Hid (gk + i = n) ∧ s13 = .int .i64 (i : Int) ∧ St w wr [.blk g3 30 zeroD.arr])
 case atStart => exact ⟨0, Lib.hid rfl, rfl, hst.pick [0] (by decide)⟩
 case round =>
  clear hst
  obtain ⟨i, HI, rfl, hst⟩ := hrel
  have hi := HI.out
  by_cases hin : i < n
  ·obtain ⟨g, rfl⟩ : ∃ g, gk = g + 1 := ⟨gk - 1, by omega⟩
   have hil : i < b.length := by rw [HBL.out]; exact hin
   have HC := Lib.hid (fun (W : World) (g off : Nat) h => note_cells (W := W) (g := g) (off := off) (i := i) (ns := b) h hil)
   obtain ⟨k1, k2, k3, k4⟩ := HK.out i hil
   have HN := Lib.hid (fun w => by have := named_any b[i].name w; rw [k1] at this; exact this)
   have HP := Lib.hid (show 0 < i → ∃ u, (∀ (W : World) (g off : Nat), W.rangeAt g (off + ((i - 1 : Nat) : Int).toNat * 34) (((notesL b).drop (((i - 1 : Nat) : Int).toNat * 34)).take 34) → W.cell? ⟨g, off + ((i - 1 : Nat) : Int).toNat * 34 + 0, none⟩ = some (.string (bsOf u))) ∧ (Go.Op.bytesLess b[i].name u || decide (b[i].name = u)) = false from fun h => ⟨(b[i - 1]'(by omega)).name, fun W g off hh => note_name (W := W) (g := g) (off := off) (i := i - 1) (ns := b) hh (by omega), HS.out i h hil⟩)
   obtain ⟨x, hxx⟩ : ∃ x, x = b[i] := ⟨_, rfl⟩
   unfold NoteN.arr at HC
   rw [← hxx] at HC HN k3 k4 HP
   have HZ := Lib.hid (show decide (x.key = zeroD) = false from decide_eq_false k3)
   clear hil k1 k2 k3 hxx
   obtain ⟨xs, xk, xt⟩ := x
   simp only at *
   generalize hzz : zeroD = z0 at *
   clear hzz
   have h0' : i = 0 ∨ 0 < i := by omega
   rcases h0' with h0 | h0
   ·subst h0
    clear HP hi
    rcases k4 with rfl | rfl
    all_goals
     go_upto_region 6 with (go_big_may; fail)
     go_upto_region 7 with (go_big_may; first | (refine L_loadM (d := some 17) rfl rfl rfl (by rfl) Tryd.underlying138 rfl el_api_Contact (HC.out _ _ _ hr16) (ntArr_size _ _ _) ?_) | (refine L_idxS (d := some 16) rfl rfl rfl (by rfl) (by rfl) Tryd.underlying74 el_api_Contact (by (exact hst.old (by decide) HX.out)) (by omega) (by omega) ?_; intro o16 p16 ha16 hr16; ((subst ha16))) | (refine L_allocA (d := some 5) rfl rfl rfl el_api_Contact ?_; (try clear hnew); intro g5 W5 hnew; replace hst := hst.trans hnew; simp only [List.cons_append, List.nil_append] at hst) | (refine wpl_at (.store 138 (.tmp 5) (.tmp 17)) rfl ?_; (refine L_storeA rfl rfl hst rfl (by rfl) (ev_tmp rfl) (by (exact ntArr_all _ _ _)) el_api_Contact (by (exact ntArr_size _ _ _)) 0 rfl (by (rfl)) ?_; clear hst; intro WS5 hst; simp only [List.set_cons_zero, List.set_cons_succ] at hst)))
     go_upto_region 9 with (go_big_may; first | (go_at_call 52; (try clear hnew); refine (HN.out _).mono ?_; rintro e Wk1 ⟨rfl, hnew⟩; replace hst := hst.keep hnew) | (refine L_load1 (d := some 20) rfl rfl rfl (by rfl) Tryd.underlying9 rfl (by (exact cell_of (hst.get 0 rfl) ntArr_0)) ?_))
     (try clear hnew)
     refine wp_region_idx [(0, 2), (1, 2), (2, 2), (3, 0), (4, 0), (5, 0), (6, 2), (7, 2), (8, 2), (9, 2), (10, 2), (11, 2), (12, 2), (13, 2)] (by kernel_rfl) (by kernel_rfl) ?_
     replace hst := hst.drew
     refine idx_g rfl ?_; go_wp2_with fail; refine ⟨by (exact Below.refl _ _), ?_⟩
     refine idx_g rfl ?_; go_wp2_with fail; refine ⟨by (exact Below.refl _ _), ?_⟩
     refine idx_g rfl ?_; go_wp2_with fail; refine ⟨by (exact Below.refl _ _), ?_⟩
     refine idx_qf rfl rfl (by kernel_rfl) ?_; go_wp2_with (fail)
     refine idx_q rfl rfl ?_; go_wp2_with (fail)
     refine idx_q rfl rfl ?_; go_wp2_with (fail)
     refine idx_g rfl ?_; go_wp2_with (fail); refine ⟨by (exact Below.refl _ _), ?_⟩
     refine idx_g rfl ?_; go_wp2_with (fail); refine ⟨by (exact Below.refl _ _), ?_⟩
     refine idx_g rfl ?_; go_wp2_with (fail); refine ⟨by (exact Below.refl _ _), ?_⟩
     refine idx_g rfl ?_; go_wp2_with (fail); refine ⟨by (exact Below.refl _ _), ?_⟩
     refine idx_g rfl ?_; go_wp2_with (fail); refine ⟨by (exact Below.refl _ _), ?_⟩
     refine idx_g rfl ?_; go_wp2_with (fail); refine ⟨by (exact Below.refl _ _), ?_⟩
     refine idx_g rfl ?_; go_wp2_with fail; refine ⟨by (exact Below.refl _ _), ?_⟩
     refine idx_g rfl ?_; go_wp2_with fail; refine ⟨by (exact Below.refl _ _), ?_⟩
     refine idx_nil ?_
     go_upto_region 11 with fail
     go_upto_region 13 with (go_big_may; first | (refine L_load1 (d := some 41) rfl rfl rfl (by rfl) Tryd.underlying3 rfl (by (exact cell_of (hst.get 0 rfl) ntArr_33)) ?_) | (refine L_load1 (d := some 45) rfl rfl rfl (by rfl) Tryd.underlying3 rfl (by (exact cell_of (hst.get 0 rfl) ntArr_33)) ?_))
     refine wp_region_idx [(0, 0), (1, 0), (2, 0), (4, 0), (5, 0), (6, 0), (7, 0), (3, 2), (8, 2), (9, 2)] (by kernel_rfl) (by kernel_rfl) ?_
     replace hst := hst.drew
     refine idx_qf rfl rfl (by kernel_rfl) ?_; go_wp2_with fail
     refine idx_q rfl rfl ?_; go_wp2_with (((refine L_loadM (d := some 51) rfl rfl rfl (by rfl) Tryd.underlying30 rfl el_api_Digest (by (exact ntArr_key (hst.get 0 rfl))) (by (exact Dig.size _)) ?_)))
     refine idx_q rfl rfl ?_; go_wp2_with (((refine L_loadA (d := some 52) rfl rfl rfl (by rfl) Tryd.underlying30 rfl el_api_Digest (by (exact hst.get 1 rfl)) (by (exact Dig.size _)) ?_)))
     refine idx_qf rfl rfl (by kernel_rfl) ?_; go_wp2_with fail
     refine idx_q rfl rfl ?_; go_wp2_with ((refine L_load1 (d := some 55) rfl rfl rfl (by rfl) Tryd.underlying3 rfl (by (exact cell_of (hst.get 0 rfl) ntArr_33)) ?_))
     refine idx_q rfl rfl ?_; go_wp2_with fail
     refine idx_q rfl rfl ?_; go_wp2_with fail
     refine idx_g rfl ?_; go_wp2_with ((refine L_eqD (d := some 53) rfl rfl rfl Tryd.underlying30 Tryd.underlying5 el_uint8 eqG_D (ev_tmp rfl) (ev_tmp rfl) ?_; (try rw [HZ.out]))); refine ⟨by (exact Below.refl _ _), ?_⟩
     refine idx_g rfl ?_; go_wp2_with fail; refine ⟨by (exact Below.refl _ _), ?_⟩
     refine idx_g rfl ?_; go_wp2_with fail; refine ⟨by (exact Below.refl _ _), ?_⟩
     refine idx_nil ?_
     go_wp2_with (fail)
     go_roundg g
     case measure => omega
     case rel => exact ⟨1, Lib.hid (by have := HI.out; omega), by go_num, hst.tail⟩
   ·obtain ⟨u, hu1, hle1⟩ := HP.out h0
    rw [show ((i - 1 : Nat) : Int) = (i : Int) - 1 by omega] at hu1
    have HU := Lib.hid hu1
    have HLe := Lib.hid hle1
    clear hu1 hle1
    have h0i : (0 : Int) < (i : Int) := by omega
    clear HP hi
    rcases k4 with rfl | rfl
    all_goals
     go_upto_region 6 with (go_big_may; fail)
     go_upto_region 7 with (go_big_may; first | (refine L_loadM (d := some 17) rfl rfl rfl (by rfl) Tryd.underlying138 rfl el_api_Contact (HC.out _ _ _ hr16) (ntArr_size _ _ _) ?_) | (refine L_idxS (d := some 16) rfl rfl rfl (by rfl) (by rfl) Tryd.underlying74 el_api_Contact (by (exact hst.old (by decide) HX.out)) (by omega) (by omega) ?_; intro o16 p16 ha16 hr16; ((subst ha16))) | (refine L_allocA (d := some 5) rfl rfl rfl el_api_Contact ?_; (try clear hnew); intro g5 W5 hnew; replace hst := hst.trans hnew; simp only [List.cons_append, List.nil_append] at hst) | (refine wpl_at (.store 138 (.tmp 5) (.tmp 17)) rfl ?_; (refine L_storeA rfl rfl hst rfl (by rfl) (ev_tmp rfl) (by (exact ntArr_all _ _ _)) el_api_Contact (by (exact ntArr_size _ _ _)) 0 rfl (by (rfl)) ?_; clear hst; intro WS5 hst; simp only [List.set_cons_zero, List.set_cons_succ] at hst)))
     go_upto_region 9 with (go_big_may; first | (go_at_call 52; (try clear hnew); refine (HN.out _).mono ?_; rintro e Wk2 ⟨rfl, hnew⟩; replace hst := hst.keep hnew) | (refine L_load1 (d := some 20) rfl rfl rfl (by rfl) Tryd.underlying9 rfl (by (exact cell_of (hst.get 0 rfl) ntArr_0)) ?_))
     (try clear hnew)
     refine wp_region_idx [(0, 0), (1, 2), (2, 0), (3, 0), (4, 0), (5, 0), (6, 0), (7, 2), (8, 0), (9, 0), (10, 0), (11, 2), (12, 2), (13, 2)] (by kernel_rfl) (by kernel_rfl) ?_
     replace hst := hst.drew
     refine idx_q rfl rfl ?_; go_wp2_with fail
     refine idx_g rfl ?_; go_wp2_with fail; refine ⟨by (exact Below.refl _ _), ?_⟩
     refine idx_q rfl rfl ?_; go_wp2_with fail
     refine idx_qf rfl rfl (by kernel_rfl) ?_; go_wp2_with fail
     refine idx_q rfl rfl ?_; go_wp2_with ((refine L_load1 (d := some 29) rfl rfl rfl (by rfl) Tryd.underlying9 rfl (by (exact cell_of (hst.get 0 rfl) ntArr_0)) ?_))
     refine idx_q rfl rfl ?_; go_wp2_with fail
     refine idx_q rfl rfl ?_; go_wp2_with fail
     refine idx_g rfl ?_; go_wp2_with fail; refine ⟨by (exact Below.refl _ _), ?_⟩
     refine idx_q rfl rfl ?_; go_wp2_with ((refine L_idxS (d := some 33) rfl rfl rfl (by rfl) (by rfl) Tryd.underlying74 el_api_Contact (by (exact hst.old (by decide) HX.out)) (by omega) (by omega) ?_; intro o33 p33 ha33 hr33; ((obtain ⟨h1, h2⟩ := some_addr ha33; subst h1; subst h2; clear ha33))))
     refine idx_qf rfl rfl (by kernel_rfl) ?_; go_wp2_with fail
     refine idx_q rfl rfl ?_; go_wp2_with ((refine L_load1 (d := some 35) rfl rfl rfl (by rfl) Tryd.underlying9 rfl (by have := HU.out _ _ _ hr33; simpa using this) ?_))
     refine idx_g rfl ?_; go_wp2_with ((refine L_leStr (d := some 36) rfl rfl rfl (ev_tmp rfl) (ev_tmp rfl) HLe.out ?_)); refine ⟨by (exact Below.refl _ _), ?_⟩
     refine idx_g rfl ?_; go_wp2_with fail; refine ⟨by (exact Below.refl _ _), ?_⟩
     refine idx_g rfl ?_; go_wp2_with fail; refine ⟨by (exact Below.refl _ _), ?_⟩
     refine idx_nil ?_
     go_upto_region 11 with fail
     go_upto_region 13 with (go_big_may; first | (refine L_load1 (d := some 41) rfl rfl rfl (by rfl) Tryd.underlying3 rfl (by (exact cell_of (hst.get 0 rfl) ntArr_33)) ?_) | (refine L_load1 (d := some 45) rfl rfl rfl (by rfl) Tryd.underlying3 rfl (by (exact cell_of (hst.get 0 rfl) ntArr_33)) ?_))
     refine wp_region_idx [(0, 0), (1, 0), (2, 0), (4, 0), (5, 0), (6, 0), (7, 0), (3, 2), (8, 2), (9, 2)] (by kernel_rfl) (by kernel_rfl) ?_
     replace hst := hst.drew
     refine idx_qf rfl rfl (by kernel_rfl) ?_; go_wp2_with fail
     refine idx_q rfl rfl ?_; go_wp2_with (((refine L_loadM (d := some 51) rfl rfl rfl (by rfl) Tryd.underlying30 rfl el_api_Digest (by (exact ntArr_key (hst.get 0 rfl))) (by (exact Dig.size _)) ?_)))
     refine idx_q rfl rfl ?_; go_wp2_with (((refine L_loadA (d := some 52) rfl rfl rfl (by rfl) Tryd.underlying30 rfl el_api_Digest (by (exact hst.get 1 rfl)) (by (exact Dig.size _)) ?_)))
     refine idx_qf rfl rfl (by kernel_rfl) ?_; go_wp2_with fail
     refine idx_q rfl rfl ?_; go_wp2_with ((refine L_load1 (d := some 55) rfl rfl rfl (by rfl) Tryd.underlying3 rfl (by (exact cell_of (hst.get 0 rfl) ntArr_33)) ?_))
     refine idx_q rfl rfl ?_; go_wp2_with fail
     refine idx_q rfl rfl ?_; go_wp2_with fail
     refine idx_g rfl ?_; go_wp2_with ((refine L_eqD (d := some 53) rfl rfl rfl Tryd.underlying30 Tryd.underlying5 el_uint8 eqG_D (ev_tmp rfl) (ev_tmp rfl) ?_; (try rw [HZ.out]))); refine ⟨by (exact Below.refl _ _), ?_⟩
     refine idx_g rfl ?_; go_wp2_with fail; refine ⟨by (exact Below.refl _ _), ?_⟩
     refine idx_g rfl ?_; go_wp2_with fail; refine ⟨by (exact Below.refl _ _), ?_⟩
     refine idx_nil ?_
     go_wp2_with (fail)
     go_roundg g
     case measure => omega
     case rel => exact ⟨i + 1, Lib.hid (by have := HI.out; omega), by go_num, hst.tail⟩
  ·obtain rfl : i = n := by omega
   go_upto_region 16 with (go_big_may; fail)
   go_wp2_with (fail)
   go_ret
   exact ⟨rfl, hst.forget⟩
end Go.Proofs.YtaebeemnipafbaaDoor

set_option maxRecDepth 20000
set_option linter.unusedSimpArgs false
set_option linter.unusedVariables false
namespace Go.Proofs.YtaebeemnipafbaaDoor
open Go.RowKit
attribute [local simp] ntArr_size
theorem okc_tail {K : List UInt8 → Dig} {x : NoteN} {b : List NoteN} (h : ∀ c ∈ x :: b, OkC K c) : OkC K x ∧ ∀ c ∈ b, OkC K c := ⟨h x (by simp), fun c hc => h c (List.mem_cons_of_mem _ hc)⟩
def JoinInv (K : List UInt8 → Dig) (a b o a' b' : List NoteN) : Prop := o ++ mergeN a' b' = mergeN a b ∧ (∀ c ∈ a', OkC K c) ∧ (∀ c ∈ b', OkC K c) ∧ o.length + a'.length + b'.length ≤ 40
theorem merge_two_nil {a b : List NoteN} (h : a = [] ∨ b = []) : mergeN a b = a ++ b := by
 rcases h with rfl | rfl
 ·rw [merge_nil', List.nil_append]
 ·rw [merge_nil, List.append_nil]
set_option maxHeartbeats 8000000 in
set_option maxRecDepth 100000 in
theorem join_ok {K : List UInt8 → Dig} (a b : List NoteN) (A : Option Addr) (n ca : Nat) (B : Option Addr) (m cb : Nat) (w : World) (hx : SlR w A n ca 34 (notesL a)) (hy : SlR w B m cb 34 (notesL b)) (hsa : SortB a) (hsb : SortB b) (hka : ∀ c ∈ a, OkC K c) (hkb : ∀ c ∈ b, OkC K c) (hl : n + m ≤ 40) :
  Calls Tryd.prog 35 #[.slice A n ca, .slice B m cb] w fun e w' => ∃ O oc, e = .returned (.tuple #[.slice O (mergeN a b).length oc, .nilIface]) ∧ St w w' [.row O (mergeN a b).length oc 138 34 (notesL (mergeN a b))] := by
 have hst := St.refl w
 have hal := note_lenT hx
 have hbl := note_lenT hy
 have HX := Lib.hid hx
 have HY := Lib.hid hy
 have HCa := Lib.hid (fun (w' : World) (h : SlR w' A n ca 34 (notesL a)) => check_ok a A n ca w' h hsa hka (by omega))
 have HCb := Lib.hid (fun (w' : World) (h : SlR w' B m cb 34 (notesL b)) => check_ok b B m cb w' h hsb hkb (by omega))
 obtain ⟨r, hr⟩ : ∃ r, r = mergeN a b := ⟨_, rfl⟩
 rw [← hr]
 have HV := Lib.hid (show [] ++ mergeN a b = r ∧ (∀ c ∈ a, OkC K c) ∧ (∀ c ∈ b, OkC K c) ∧ ([] : List NoteN).length + a.length + b.length ≤ 40 from ⟨by rw [hr]; rfl, hka, hkb, by simp; omega⟩)
 have HAL := Lib.hid hal
 have HBL := Lib.hid hbl
 clear hr hka hkb hsa hsb hal hbl hx hy
 go_enter Tryd.func35, Tryd.ntmps35
 go_upto_region 1 with (go_big_may; fail)
 go_upto_region 2 with (go_big_may; (go_at_call 74; (try clear hnew); refine (HCa.out _ (hst.old (by decide) HX.out)).mono ?_; rintro e Wk1 ⟨rfl, hnew⟩; replace hst := hst.keep hnew))
 go_upto_region 4 with (go_big_may; fail)
 go_upto_region 5 with (go_big_may; (go_at_call 74; (try clear hnew); refine (HCb.out _ (hst.old (by decide) HY.out)).mono ?_; rintro e Wk2 ⟨rfl, hnew⟩; replace hst := hst.keep hnew))
 go_upto_region 7 with (go_big_may; fail)
 go_wp2_with (fail)
 clear HCa HCb hnew
 replace hst := hst.nilRow 138 34
 go_loopg [0, 1, 8] (n + m) (fun gk s0 s1 s8 wr => ∃ (a' b' o : List NoteN) (p q z : Nat) (A' B' O : Option Addr) (c1 c2 oc : Nat), Hid (p + q = gk ∧ a'.length = p ∧ b'.length = q ∧ o.length = z) ∧ Hid (o ++ mergeN a' b' = r ∧ (∀ c ∈ a', OkC K c) ∧ (∀ c ∈ b', OkC K c) ∧ o.length + a'.length + b'.length ≤ 40) ∧ Hid (SlR w A' p c1 34 (notesL a')) ∧ Hid (SlR w B' q c2 34 (notesL b')) ∧ s0 = .slice A' p c1 ∧ s1 = .slice B' q c2 ∧ s8 = .slice O z oc ∧
  St w wr [.row O z oc 138 34 (notesL o)])
 case atStart => exact ⟨a, b, [], n, m, 0, A, B, none, ca, cb, 0, Lib.hid ⟨rfl, HAL.out, HBL.out, rfl⟩, HV, HX, HY, rfl, rfl, rfl, hst⟩
 case round =>
  clear hst HV HX HY HAL HBL
  obtain ⟨a', b', o, p, q, z, A', B', O, c1, c2, oc, HL, HV, HX, HY, rfl, rfl, rfl, hst⟩ := hrel
  have hz : z + p + q ≤ 40 := by have := HL.out; have := HV.out.2.2.2; omega
  by_cases hpq : 0 < p ∧ 0 < q
  ·obtain ⟨hp, hq⟩ := hpq
   obtain ⟨x, a1, rfl⟩ : ∃ x a1, a' = x :: a1 := by
    cases a' with
    | nil => have := HL.out.2.1; simp at this; omega
    | cons x a1 => exact ⟨x, a1, rfl⟩
   obtain ⟨y, b1, rfl⟩ : ∃ y b1, b' = y :: b1 := by
    cases b' with
    | nil => have := HL.out.2.2.1; simp at this; omega
    | cons x a1 => exact ⟨x, a1, rfl⟩
   obtain ⟨p, rfl⟩ : ∃ p', p = p' + 1 := ⟨p - 1, by omega⟩
   obtain ⟨q, rfl⟩ : ∃ q', q = q' + 1 := ⟨q - 1, by omega⟩
   have hxx := HX.out
   have hyy := HY.out
   have HCx := Lib.hid (fun (W : World) (g off : Nat) h => note_0 (W := W) (g := g) (off := off) (x := x) (ns := a1) h)
   have HCy := Lib.hid (fun (W : World) (g off : Nat) h => note_0 (W := W) (g := g) (off := off) (x := y) (ns := b1) h)
   have HNx := Lib.hid (fun (W : World) (g off : Nat) h => note_0n (W := W) (g := g) (off := off) (x := x) (ns := a1) h)
   have HNy := Lib.hid (fun (W : World) (g off : Nat) h => note_0n (W := W) (g := g) (off := off) (x := y) (ns := b1) h)
   have HTx := Lib.hid (fun (A : Option Addr) (c : Nat) (h : SlR w A (p + 1 - 1) c 34 (((notesL (x :: a1)).drop (1 * 34)).take ((p + 1 - 1) * 34))) => notes_tl h (by have := HL.out.2.1; simp at this; exact this))
   have HTy := Lib.hid (fun (A : Option Addr) (c : Nat) (h : SlR w A (q + 1 - 1) c 34 (((notesL (y :: b1)).drop (1 * 34)).take ((q + 1 - 1) * 34))) => notes_tl h (by have := HL.out.2.2.1; simp at this; exact this))
   have HON := Lib.hid (fun u : NoteN => show notesL o ++ (ntArr u.name u.key u.turn).toList = notesL (o ++ [u]) by rw [notesL_app, notesL_one]; rfl)
   have hc1 := hxx.2.1
   have hc2 := hyy.2.1
   obtain ⟨l, hl⟩ : ∃ l, l = notesL (x :: a1) := ⟨_, rfl⟩
   obtain ⟨l2, hl2⟩ : ∃ l, l = notesL (y :: b1) := ⟨_, rfl⟩
   rw [← hl] at hxx HCx HNx HTx
   rw [← hl2] at hyy HCy HNy HTy
   clear hl hl2
   have HPs := Lib.hid (And.intro hp hq)
   clear hp hq
   rcases cmp_three x.name y.name with hcm | hcm | hcm
   ·have HM := Lib.hid (merge_lt (a := a1) (b := b1) hcm)
    have HC := Lib.hid (fun w : World => by have := Tryd.strings_Compare (bsOf x.name) (bsOf y.name) w; rw [bsOf_list, bsOf_list, hcm] at this; exact this)
    clear hcm
    go_upto_region 9 with (go_big_may; fail)
    refine wp_region_idx [(0, 0), (1, 0), (2, 0), (3, 0), (4, 2), (5, 2), (6, 2), (7, 2), (8, 2)] (by kernel_rfl) (by kernel_rfl) ?_
    replace hst := hst.drew
    refine idx_q rfl rfl ?_; go_wp2_with fail
    refine idx_q rfl rfl ?_; go_wp2_with ((refine L_idxS (d := some 28) rfl rfl rfl (by rfl) (by rfl) Tryd.underlying74 el_api_Contact (by (exact hst.old (by decide) hxx)) (by omega) (by omega) ?_; intro o28 p28 ha28 hr28; ((subst ha28))))
    refine idx_qf rfl rfl (by kernel_rfl) ?_; go_wp2_with fail
    refine idx_q rfl rfl ?_; go_wp2_with ((refine L_load1 (d := some 30) rfl rfl rfl (by rfl) Tryd.underlying9 rfl (HNx.out _ _ _ hr28) ?_))
    refine idx_g rfl ?_; go_wp2_with fail; refine ⟨by (exact Below.refl _ _), ?_⟩
    refine idx_g rfl ?_; go_wp2_with ((refine L_idxS (d := some 32) rfl rfl rfl (by rfl) (by rfl) Tryd.underlying74 el_api_Contact (by (exact hst.old (by decide) hyy)) (by omega) (by omega) ?_; intro o32 p32 ha32 hr32; ((subst ha32)))); refine ⟨by (exact Below.refl _ _), ?_⟩
    refine idx_g rfl ?_; go_wp2_with fail; refine ⟨by (exact Below.refl _ _), ?_⟩
    refine idx_g rfl ?_; go_wp2_with ((refine L_load1 (d := some 34) rfl rfl rfl (by rfl) Tryd.underlying9 rfl (HNy.out _ _ _ hr32) ?_)); refine ⟨by (exact Below.refl _ _), ?_⟩
    refine idx_g rfl ?_; go_wp2_with ((go_at_call 75; refine (HC.out _).mono ?_; rintro e Wc ⟨rfl, rfl⟩)); refine ⟨by (exact Below.refl _ _), ?_⟩
    refine idx_nil ?_
    (try clear hnew)
    go_upto_region 12 with fail
    refine wp_region_pm (.one 0 3 (.one 1 3 (.one 6 3 (.one 7 3 (.one 2 2 (.one 3 2 (.one 4 2 (.one 5 1 (.one 8 2 (.one 9 2 .nil)))))))))) (by kernel_rfl) (by kernel_rfl) ?_
    replace hst := hst.drew
    refine pm_p rfl rfl ?_; go_wp2_with fail
    refine pm_p rfl rfl ?_; go_wp2_with fail
    refine pm_p rfl rfl ?_; go_wp2_with fail
    refine pm_pv rfl (pureV_cut rfl (by rfl) Tryd.underlying74 el_api_Contact 1 _ _ (Or.inr ⟨_, _, rfl, rfl⟩) (Or.inl ⟨rfl, rfl, rfl⟩) (Or.inl ⟨rfl, rfl⟩) (by omega) (by omega) (by omega) (by omega)) ?_; go_wp2_with (((refine L_cutV (d := some 59) rfl rfl rfl (by rfl) Tryd.underlying74 el_api_Contact (by decide) hxx 1 _ _ (Or.inr ⟨_, _, rfl, rfl⟩) (Or.inl ⟨rfl, rfl, rfl⟩) (Or.inl ⟨rfl, rfl⟩) (by omega) (by omega) (by omega) (by omega) ?_; intro A59 c59 hs59)))
    refine pm_g rfl ?_; go_wp2_with ((refine L_idxS (d := some 54) rfl rfl rfl (by rfl) (by rfl) Tryd.underlying74 el_api_Contact (by (exact hst.old (by decide) hxx)) (by omega) (by omega) ?_; intro o54 p54 ha54 hr54; ((obtain ⟨h1, h2⟩ := some_addr ha54; subst h1; subst h2; clear ha54)))); refine ⟨by (exact Below.refl _ _), ?_⟩
    refine pm_g rfl ?_; go_wp2_with ((refine L_loadM (d := some 55) rfl rfl rfl (by rfl) Tryd.underlying138 rfl el_api_Contact (HCx.out _ _ _ hr54) (ntArr_size _ _ _) ?_)); refine ⟨by (exact Below.refl _ _), ?_⟩
    refine pm_g rfl ?_; go_wp2_with ((refine L_buildS (d := some 56) rfl rfl rfl [_] (bs_1 (ev_tmp rfl)) rfl Tryd.underlying74 el_api_Contact rfl (by (simp [Value.cells]; done)) (by decide) (by decide) ?_; (try clear hnew); intro g56 W56 hnew; replace hst := hst.trans hnew; simp only [List.cons_append, List.nil_append] at hst; simp only [List.flatMap_cons, List.flatMap_nil, List.append_nil, Value.cells, List.toList_toArray] at hst)); refine ⟨by (exact hnew.below), ?_⟩
    refine pm_e rfl ?_; go_wp2_with ((refine L_appendO (d := some 57) rfl rfl hst rfl (by rfl) (by rfl) Tryd.underlying74 el_api_Contact rfl (by decide) (by decide) 1 rfl (by (rfl)) (by (exact hst.sl 0 rfl)) (by (exact ntArr_one _ _ _)) (by omega) ?_; clear hst; intro A57 c57 W57 hst; simp only [List.set_cons_zero, List.set_cons_succ, List.nil_append, Nat.zero_add] at hst))
    refine pm_g rfl ?_; go_wp2_with fail; refine ⟨by (exact Below.refl _ _), ?_⟩
    refine pm_g rfl ?_; go_wp2_with fail; refine ⟨by (exact Below.refl _ _), ?_⟩
    refine pm_nil ?_
    go_wp2_with fail
    rw [HON.out x] at hst
    go_roundg (gk - 1)
    case measure => have := HL.out; have := HPs.out; omega
    case rel => exact ⟨a1, y :: b1, o ++ [x], p, q + 1, z + 1, _, _, _, _, c2, _, Lib.hid ⟨by have := HL.out; omega, by have := HL.out.2.1; simpa using this, HL.out.2.2.1, by have := HL.out.2.2.2; simp; omega⟩, Lib.hid ⟨by rw [← HV.out.1, HM.out]; simp, (okc_tail HV.out.2.1).2, HV.out.2.2.1, by have := HV.out.2.2.2; simp at this ⊢; omega⟩, Lib.hid (HTx.out _ _ hs59), HY, rfl, rfl, rfl, hst.tail⟩
   ·have HM := Lib.hid (merge_eq (a := a1) (b := b1) hcm)
    have HC := Lib.hid (fun w : World => by have := Tryd.strings_Compare (bsOf x.name) (bsOf y.name) w; rw [bsOf_list, bsOf_list, hcm] at this; exact this)
    have HBo := Lib.hid (fun w' => both_any x y w' (okc_tail HV.out.2.1).1 (okc_tail HV.out.2.2.1).1 (cmp_zero hcm))
    obtain ⟨u, hu⟩ : ∃ u, u = bothC x y := ⟨_, rfl⟩
    rw [← hu] at HBo
    have HU := Lib.hid hu
    clear hu
    clear hcm
    go_upto_region 9 with (go_big_may; fail)
    refine wp_region_idx [(0, 0), (1, 0), (2, 0), (3, 0), (4, 2), (5, 2), (6, 2), (7, 2), (8, 2)] (by kernel_rfl) (by kernel_rfl) ?_
    replace hst := hst.drew
    refine idx_q rfl rfl ?_; go_wp2_with fail
    refine idx_q rfl rfl ?_; go_wp2_with ((refine L_idxS (d := some 28) rfl rfl rfl (by rfl) (by rfl) Tryd.underlying74 el_api_Contact (by (exact hst.old (by decide) hxx)) (by omega) (by omega) ?_; intro o28 p28 ha28 hr28; ((subst ha28))))
    refine idx_qf rfl rfl (by kernel_rfl) ?_; go_wp2_with fail
    refine idx_q rfl rfl ?_; go_wp2_with ((refine L_load1 (d := some 30) rfl rfl rfl (by rfl) Tryd.underlying9 rfl (HNx.out _ _ _ hr28) ?_))
    refine idx_g rfl ?_; go_wp2_with fail; refine ⟨by (exact Below.refl _ _), ?_⟩
    refine idx_g rfl ?_; go_wp2_with ((refine L_idxS (d := some 32) rfl rfl rfl (by rfl) (by rfl) Tryd.underlying74 el_api_Contact (by (exact hst.old (by decide) hyy)) (by omega) (by omega) ?_; intro o32 p32 ha32 hr32; ((subst ha32)))); refine ⟨by (exact Below.refl _ _), ?_⟩
    refine idx_g rfl ?_; go_wp2_with fail; refine ⟨by (exact Below.refl _ _), ?_⟩
    refine idx_g rfl ?_; go_wp2_with ((refine L_load1 (d := some 34) rfl rfl rfl (by rfl) Tryd.underlying9 rfl (HNy.out _ _ _ hr32) ?_)); refine ⟨by (exact Below.refl _ _), ?_⟩
    refine idx_g rfl ?_; go_wp2_with ((go_at_call 75; refine (HC.out _).mono ?_; rintro e Wc ⟨rfl, rfl⟩)); refine ⟨by (exact Below.refl _ _), ?_⟩
    refine idx_nil ?_
    (try clear hnew)
    go_upto_region 10 with fail
    refine wp_region_pm (.one 0 3 (.one 1 3 (.one 4 3 (.one 10 3 (.one 11 3 (.one 12 3 (.one 13 3 (.one 2 0 (.one 3 0 (.one 5 2 (.one 6 2 (.one 7 2 (.one 8 2 (.one 9 1 (.one 14 2 (.one 15 2 (.one 16 2 .nil))))))))))))))))) (by kernel_rfl) (by kernel_rfl) ?_
    replace hst := hst.drew
    refine pm_p rfl rfl ?_; go_wp2_with fail
    refine pm_p rfl rfl ?_; go_wp2_with fail
    refine pm_p rfl rfl ?_; go_wp2_with fail
    refine pm_p rfl rfl ?_; go_wp2_with fail
    refine pm_pv rfl (pureV_cut rfl (by rfl) Tryd.underlying74 el_api_Contact 1 _ _ (Or.inr ⟨_, _, rfl, rfl⟩) (Or.inl ⟨rfl, rfl, rfl⟩) (Or.inl ⟨rfl, rfl⟩) (by omega) (by omega) (by omega) (by omega)) ?_; go_wp2_with (((refine L_cutV (d := some 47) rfl rfl rfl (by rfl) Tryd.underlying74 el_api_Contact (by decide) hxx 1 _ _ (Or.inr ⟨_, _, rfl, rfl⟩) (Or.inl ⟨rfl, rfl, rfl⟩) (Or.inl ⟨rfl, rfl⟩) (by omega) (by omega) (by omega) (by omega) ?_; intro A47 c47 hs47)))
    refine pm_p rfl rfl ?_; go_wp2_with fail
    refine pm_pv rfl (pureV_cut rfl (by rfl) Tryd.underlying74 el_api_Contact 1 _ _ (Or.inr ⟨_, _, rfl, rfl⟩) (Or.inl ⟨rfl, rfl, rfl⟩) (Or.inl ⟨rfl, rfl⟩) (by omega) (by omega) (by omega) (by omega)) ?_; go_wp2_with (((refine L_cutV (d := some 49) rfl rfl rfl (by rfl) Tryd.underlying74 el_api_Contact (by decide) hyy 1 _ _ (Or.inr ⟨_, _, rfl, rfl⟩) (Or.inl ⟨rfl, rfl, rfl⟩) (Or.inl ⟨rfl, rfl⟩) (by omega) (by omega) (by omega) (by omega) ?_; intro A49 c49 hs49)))
    refine pm_q rfl rfl ?_; go_wp2_with ((refine L_idxS (d := some 38) rfl rfl rfl (by rfl) (by rfl) Tryd.underlying74 el_api_Contact (by (exact hst.old (by decide) hxx)) (by omega) (by omega) ?_; intro o38 p38 ha38 hr38; ((obtain ⟨h1, h2⟩ := some_addr ha38; subst h1; subst h2; clear ha38))))
    refine pm_q rfl rfl ?_; go_wp2_with ((refine L_loadM (d := some 39) rfl rfl rfl (by rfl) Tryd.underlying138 rfl el_api_Contact (HCx.out _ _ _ hr38) (ntArr_size _ _ _) ?_))
    refine pm_g rfl ?_; go_wp2_with ((refine L_idxS (d := some 41) rfl rfl rfl (by rfl) (by rfl) Tryd.underlying74 el_api_Contact (by (exact hst.old (by decide) hyy)) (by omega) (by omega) ?_; intro o41 p41 ha41 hr41; ((obtain ⟨h1, h2⟩ := some_addr ha41; subst h1; subst h2; clear ha41)))); refine ⟨by (exact Below.refl _ _), ?_⟩
    refine pm_g rfl ?_; go_wp2_with ((refine L_loadM (d := some 42) rfl rfl rfl (by rfl) Tryd.underlying138 rfl el_api_Contact (HCy.out _ _ _ hr41) (ntArr_size _ _ _) ?_)); refine ⟨by (exact Below.refl _ _), ?_⟩
    refine pm_g rfl ?_; go_wp2_with ((go_at_call 76; (try clear hnew); refine (HBo.out _).mono ?_; rintro e Wk3 ⟨rfl, hnew⟩; replace hst := hst.keep hnew)); refine ⟨by (exact hnew.below), ?_⟩
    refine pm_g rfl ?_; go_wp2_with ((refine L_buildS (d := some 44) rfl rfl rfl [_] (bs_1 (ev_tmp rfl)) rfl Tryd.underlying74 el_api_Contact rfl (by (simp [Value.cells]; done)) (by decide) (by decide) ?_; (try clear hnew); intro g44 W44 hnew; replace hst := hst.trans hnew; simp only [List.cons_append, List.nil_append] at hst; simp only [List.flatMap_cons, List.flatMap_nil, List.append_nil, Value.cells, List.toList_toArray] at hst)); refine ⟨by (exact hnew.below), ?_⟩
    refine pm_e rfl ?_; go_wp2_with ((refine L_appendO (d := some 45) rfl rfl hst rfl (by rfl) (by rfl) Tryd.underlying74 el_api_Contact rfl (by decide) (by decide) 1 rfl (by (rfl)) (by (exact hst.sl 0 rfl)) (by (exact ntArr_one _ _ _)) (by omega) ?_; clear hst; intro A45 c45 W45 hst; simp only [List.set_cons_zero, List.set_cons_succ, List.nil_append, Nat.zero_add] at hst))
    refine pm_g rfl ?_; go_wp2_with fail; refine ⟨by (exact Below.refl _ _), ?_⟩
    refine pm_g rfl ?_; go_wp2_with fail; refine ⟨by (exact Below.refl _ _), ?_⟩
    refine pm_g rfl ?_; go_wp2_with fail; refine ⟨by (exact Below.refl _ _), ?_⟩
    refine pm_nil ?_
    go_wp2_with fail
    rw [HON.out u] at hst
    go_roundg (gk - 2)
    case measure => have := HL.out; have := HPs.out; omega
    case rel => exact ⟨a1, b1, o ++ [u], p, q, z + 1, _, _, _, _, _, _, Lib.hid ⟨by have := HL.out; omega, by have := HL.out.2.1; simpa using this, by have := HL.out.2.2.1; simpa using this, by have := HL.out.2.2.2; simp; omega⟩, Lib.hid ⟨by rw [← HV.out.1, HM.out, HU.out]; simp, (okc_tail HV.out.2.1).2, (okc_tail HV.out.2.2.1).2, by have := HV.out.2.2.2; simp at this ⊢; omega⟩, Lib.hid (HTx.out _ _ hs47), Lib.hid (HTy.out _ _ hs49), rfl, rfl, rfl, hst.tail⟩
   ·have HM := Lib.hid (merge_gt (a := a1) (b := b1) hcm)
    have HC := Lib.hid (fun w : World => by have := Tryd.strings_Compare (bsOf x.name) (bsOf y.name) w; rw [bsOf_list, bsOf_list, hcm] at this; exact this)
    clear hcm
    go_upto_region 9 with (go_big_may; fail)
    refine wp_region_idx [(0, 0), (1, 0), (2, 0), (3, 0), (4, 2), (5, 2), (6, 2), (7, 2), (8, 2)] (by kernel_rfl) (by kernel_rfl) ?_
    replace hst := hst.drew
    refine idx_q rfl rfl ?_; go_wp2_with fail
    refine idx_q rfl rfl ?_; go_wp2_with ((refine L_idxS (d := some 28) rfl rfl rfl (by rfl) (by rfl) Tryd.underlying74 el_api_Contact (by (exact hst.old (by decide) hxx)) (by omega) (by omega) ?_; intro o28 p28 ha28 hr28; ((subst ha28))))
    refine idx_qf rfl rfl (by kernel_rfl) ?_; go_wp2_with fail
    refine idx_q rfl rfl ?_; go_wp2_with ((refine L_load1 (d := some 30) rfl rfl rfl (by rfl) Tryd.underlying9 rfl (HNx.out _ _ _ hr28) ?_))
    refine idx_g rfl ?_; go_wp2_with fail; refine ⟨by (exact Below.refl _ _), ?_⟩
    refine idx_g rfl ?_; go_wp2_with ((refine L_idxS (d := some 32) rfl rfl rfl (by rfl) (by rfl) Tryd.underlying74 el_api_Contact (by (exact hst.old (by decide) hyy)) (by omega) (by omega) ?_; intro o32 p32 ha32 hr32; ((subst ha32)))); refine ⟨by (exact Below.refl _ _), ?_⟩
    refine idx_g rfl ?_; go_wp2_with fail; refine ⟨by (exact Below.refl _ _), ?_⟩
    refine idx_g rfl ?_; go_wp2_with ((refine L_load1 (d := some 34) rfl rfl rfl (by rfl) Tryd.underlying9 rfl (HNy.out _ _ _ hr32) ?_)); refine ⟨by (exact Below.refl _ _), ?_⟩
    refine idx_g rfl ?_; go_wp2_with ((go_at_call 75; refine (HC.out _).mono ?_; rintro e Wc ⟨rfl, rfl⟩)); refine ⟨by (exact Below.refl _ _), ?_⟩
    refine idx_nil ?_
    (try clear hnew)
    go_upto_region 14 with fail
    refine wp_region_pm (.one 0 3 (.one 1 3 (.one 6 3 (.one 7 3 (.one 2 2 (.one 3 2 (.one 4 2 (.one 5 1 (.one 8 2 (.one 9 2 .nil)))))))))) (by kernel_rfl) (by kernel_rfl) ?_
    replace hst := hst.drew
    refine pm_p rfl rfl ?_; go_wp2_with fail
    refine pm_p rfl rfl ?_; go_wp2_with fail
    refine pm_p rfl rfl ?_; go_wp2_with fail
    refine pm_pv rfl (pureV_cut rfl (by rfl) Tryd.underlying74 el_api_Contact 1 _ _ (Or.inr ⟨_, _, rfl, rfl⟩) (Or.inl ⟨rfl, rfl, rfl⟩) (Or.inl ⟨rfl, rfl⟩) (by omega) (by omega) (by omega) (by omega)) ?_; go_wp2_with (((refine L_cutV (d := some 69) rfl rfl rfl (by rfl) Tryd.underlying74 el_api_Contact (by decide) hyy 1 _ _ (Or.inr ⟨_, _, rfl, rfl⟩) (Or.inl ⟨rfl, rfl, rfl⟩) (Or.inl ⟨rfl, rfl⟩) (by omega) (by omega) (by omega) (by omega) ?_; intro A69 c69 hs69)))
    refine pm_g rfl ?_; go_wp2_with ((refine L_idxS (d := some 64) rfl rfl rfl (by rfl) (by rfl) Tryd.underlying74 el_api_Contact (by (exact hst.old (by decide) hyy)) (by omega) (by omega) ?_; intro o64 p64 ha64 hr64; ((obtain ⟨h1, h2⟩ := some_addr ha64; subst h1; subst h2; clear ha64)))); refine ⟨by (exact Below.refl _ _), ?_⟩
    refine pm_g rfl ?_; go_wp2_with ((refine L_loadM (d := some 65) rfl rfl rfl (by rfl) Tryd.underlying138 rfl el_api_Contact (HCy.out _ _ _ hr64) (ntArr_size _ _ _) ?_)); refine ⟨by (exact Below.refl _ _), ?_⟩
    refine pm_g rfl ?_; go_wp2_with ((refine L_buildS (d := some 66) rfl rfl rfl [_] (bs_1 (ev_tmp rfl)) rfl Tryd.underlying74 el_api_Contact rfl (by (simp [Value.cells]; done)) (by decide) (by decide) ?_; (try clear hnew); intro g66 W66 hnew; replace hst := hst.trans hnew; simp only [List.cons_append, List.nil_append] at hst; simp only [List.flatMap_cons, List.flatMap_nil, List.append_nil, Value.cells, List.toList_toArray] at hst)); refine ⟨by (exact hnew.below), ?_⟩
    refine pm_e rfl ?_; go_wp2_with ((refine L_appendO (d := some 67) rfl rfl hst rfl (by rfl) (by rfl) Tryd.underlying74 el_api_Contact rfl (by decide) (by decide) 1 rfl (by (rfl)) (by (exact hst.sl 0 rfl)) (by (exact ntArr_one _ _ _)) (by omega) ?_; clear hst; intro A67 c67 W67 hst; simp only [List.set_cons_zero, List.set_cons_succ, List.nil_append, Nat.zero_add] at hst))
    refine pm_g rfl ?_; go_wp2_with fail; refine ⟨by (exact Below.refl _ _), ?_⟩
    refine pm_g rfl ?_; go_wp2_with fail; refine ⟨by (exact Below.refl _ _), ?_⟩
    refine pm_nil ?_
    go_wp2_with fail
    rw [HON.out y] at hst
    go_roundg (gk - 1)
    case measure => have := HL.out; have := HPs.out; omega
    case rel => exact ⟨x :: a1, b1, o ++ [y], p + 1, q, z + 1, _, _, _, c1, _, _, Lib.hid ⟨by have := HL.out; omega, HL.out.2.1, by have := HL.out.2.2.1; simpa using this, by have := HL.out.2.2.2; simp; omega⟩, Lib.hid ⟨by rw [← HV.out.1, HM.out]; simp, HV.out.2.1, (okc_tail HV.out.2.2.1).2, by have := HV.out.2.2.2; simp at this ⊢; omega⟩, HX, Lib.hid (HTy.out _ _ hs69), rfl, rfl, rfl, hst.tail⟩
  ·have HE := Lib.hid (show r = o ++ (a' ++ b') by
    have h1 := HV.out.1
    have h2 : a' = [] ∨ b' = [] := by
     by_cases hp : 0 < p
     ·right; apply List.eq_nil_of_length_eq_zero; have := HL.out.2.2.1; omega
     ·left; apply List.eq_nil_of_length_eq_zero; have := HL.out.2.1; omega
    rw [merge_two_nil h2] at h1
    exact h1.symm)
   have hxx := HX.out
   have hyy := HY.out
   have HR := Lib.hid (show notesL o ++ notesL a' ++ notesL b' = notesL r by rw [HE.out, notesL_app, notesL_app, List.append_assoc])
   have HRl := Lib.hid (show z + p + q = r.length by rw [HE.out]; have := HL.out; simp; omega)
   have h40 : ¬ (40 : Int) < ((z + p + q : Nat) : Int) := by omega
   have hn0 : (0 < p ∧ ¬ 0 < q) ∨ ¬ 0 < p := by omega
   clear HV HE hpq
   rcases hn0 with ⟨hp, hq⟩ | hp
   ·have hp' : (0 : Int) < (p : Int) := by omega
    have hq' : ¬ (0 : Int) < (q : Int) := by omega
    clear hp hq
    go_upto_region 15 with (go_big_may; fail)
    go_upto_region 16 with (go_big_may; first | (refine L_appendO (d := some 72) rfl rfl hst rfl (by rfl) (by rfl) Tryd.underlying74 el_api_Contact rfl (by decide) (by decide) 0 rfl (by (rfl)) (by (exact hst.old (by decide) hxx)) (by (exact notesL_ones _)) (by omega) ?_; clear hst; intro A72 c72 W72 hst; simp only [List.set_cons_zero, List.set_cons_succ, List.nil_append, Nat.zero_add] at hst) | (refine L_appendO (d := some 74) rfl rfl hst rfl (by rfl) (by rfl) Tryd.underlying74 el_api_Contact rfl (by decide) (by decide) 0 rfl (by (rfl)) (by (exact hst.old (by decide) hyy)) (by (exact notesL_ones _)) (by omega) ?_; clear hst; intro A74 c74 W74 hst; simp only [List.set_cons_zero, List.set_cons_succ, List.nil_append, Nat.zero_add] at hst))
    rw [HR.out] at hst
    go_upto_region 18 with (go_big_may; fail)
    go_wp2_with (fail)
    go_ret2
    rw [← HRl.out]
    exact ⟨_, _, rfl, hst⟩
   ·have hp' : ¬ (0 : Int) < (p : Int) := by omega
    clear hp
    go_upto_region 15 with (go_big_may; fail)
    go_upto_region 16 with (go_big_may; first | (refine L_appendO (d := some 72) rfl rfl hst rfl (by rfl) (by rfl) Tryd.underlying74 el_api_Contact rfl (by decide) (by decide) 0 rfl (by (rfl)) (by (exact hst.old (by decide) hxx)) (by (exact notesL_ones _)) (by omega) ?_; clear hst; intro A72 c72 W72 hst; simp only [List.set_cons_zero, List.set_cons_succ, List.nil_append, Nat.zero_add] at hst) | (refine L_appendO (d := some 74) rfl rfl hst rfl (by rfl) (by rfl) Tryd.underlying74 el_api_Contact rfl (by decide) (by decide) 0 rfl (by (rfl)) (by (exact hst.old (by decide) hyy)) (by (exact notesL_ones _)) (by omega) ?_; clear hst; intro A74 c74 W74 hst; simp only [List.set_cons_zero, List.set_cons_succ, List.nil_append, Nat.zero_add] at hst))
    rw [HR.out] at hst
    go_upto_region 18 with (go_big_may; fail)
    go_wp2_with (fail)
    go_ret2
    rw [← HRl.out]
    exact ⟨_, _, rfl, hst⟩
end Go.Proofs.YtaebeemnipafbaaDoor

set_option maxRecDepth 20000
set_option linter.unusedSimpArgs false
set_option linter.unusedVariables false
namespace Go.Proofs.YtaebeemnipafbaaDoor
open Go.RowKit
attribute [local simp] hdArr_size ntArr_size
theorem joinE_new {ns : List NoteN} {S : List (List UInt8 × Bool)} {b : List NoteN} (h : Bk ns S b) (hl : S.length ≤ 20) {s : List UInt8} {k : Dig} {l : Int} (hs : isNm s = true) (hk : k = keyK ns s) (hl2 : l = 1 ∨ l = 3) (hz : k ≠ zeroD) : OkC (keyK ns) ⟨s, k, l⟩ ∧ joinE b [⟨s, k, l⟩] = 0 := by
 have hx : OkC (keyK ns) ⟨s, k, l⟩ := ⟨hs, hk, hz, hl2⟩
 have hb := h.len
 refine ⟨hx, ?_⟩
 have h1 := ok_check h.sort h.ok (by omega)
 have h2 : checkE [⟨s, k, l⟩] = 0 := ok_check (K := keyK ns) (List.pairwise_singleton _ _) (fun c hc => by rw [List.mem_singleton.1 hc]; exact hx) (by simp)
 have h3 := length_merge _ b [⟨s, k, l⟩] (Nat.le_refl _)
 simp only [List.length_singleton] at h3
 unfold joinE
 rw [if_pos h1, if_pos h2, if_neg (by omega)]
theorem joinE_zero {ns : List NoteN} {S : List (List UInt8 × Bool)} {b : List NoteN} (h : Bk ns S b) (hl : S.length ≤ 20) {s : List UInt8} {l : Int} (hs : isNm s = true) (hl2 : l = 1 ∨ l = 3) : joinE b [⟨s, zeroD, l⟩] ≠ 0 := by
 have hb := h.len
 have h1 := ok_check h.sort h.ok (by omega)
 have h2 : contE none ⟨s, zeroD, l⟩ = 9 := by
  unfold contE
  rw [if_pos hs, if_neg (by rintro ⟨q, e, -⟩; cases e), if_neg (by simp only; omega), if_neg]
  intro c
  have := c.1 rfl
  rcases hl2 with h | h <;> rw [h] at this <;> cases this
 have h3 : checkE [⟨s, zeroD, l⟩] = 9 := by
  unfold checkE
  rw [if_neg (by simp), checkFrom, if_neg (by rw [h2]; decide), h2]
 unfold joinE
 rw [if_pos h1, if_neg (by rw [h3]; decide), h3]
 decide
theorem look_valB (r : Nat × Option NoteN) : ∃ n1 n2 n3, r.2.getD zeroNt = ⟨n1, n2, n3⟩ ∧ lookV r = .tuple #[.agg (ntArr n1 n2 n3), .bool r.2.isSome, errO r.1] := by
 refine ⟨(r.2.getD zeroNt).name, (r.2.getD zeroNt).key, (r.2.getD zeroNt).turn, rfl, rfl⟩
theorem find_turnB {N : List NoteN} (h : Logged N) (s : List UInt8) : -9223372036854775808 ≤ (findN N s).note.turn ∧ (findN N s).note.turn ≤ 9223372036854775807 := by
 have h0 : zeroNt.turn = 0 := rfl
 unfold findN
 by_cases hs : isNm s = true
 ·rw [if_pos hs]
  cases hi : lastI N s with
  | none => simp only [h0]; omega
  | some i =>
   obtain ⟨n, h1, h2⟩ := lastI_some hi
   simp only [h1, Option.getD_some]
   have := h.ok n (List.mem_of_getElem? h1)
   unfold noteOk at this
   rw [Bool.and_eq_true] at this
   have := of_decide_eq_true this.2
   omega
 ·rw [if_neg hs]
  show -9223372036854775808 ≤ zeroNt.turn ∧ _
  simp only [zeroFd, h0]; omega
set_option maxHeartbeats 8000000 in
set_option maxRecDepth 100000 in
theorem check_zero (s : List UInt8) (l : Int) (A : Option Addr) (c : Nat) (w : World) (hx : SlR w A 1 c 34 (ntArr s zeroD l).toList) (hs : isNm s = true) (hl : l = 1 ∨ l = 3) :
  Calls Tryd.prog 74 #[.slice A 1 c] w fun e w' => e = .returned (errV 9) ∧ St w w' [] := by
 have hst := St.refl w
 have HX := Lib.hid (show SlR w A 1 c 34 (notesL [⟨s, zeroD, l⟩]) by rw [notesL_one]; exact hx)
 have HC := Lib.hid (fun (W : World) (g off : Nat) h => note_cells (W := W) (g := g) (off := off) (i := 0) (ns := [⟨s, zeroD, l⟩]) h (by simp))
 have HN := Lib.hid (fun w => by have := named_any s w; rw [hs] at this; exact this)
 have HZ := Lib.hid (show decide (zeroD = zeroD) = true from decide_eq_true rfl)
 simp only [NoteN.arr, List.getElem_cons_zero] at HC
 clear hx hs
 go_enter Tryd.func74, Tryd.ntmps74
 go_upto_region 1 with (go_big_may; fail)
 go_upto_region 3 with (go_big_may; fail)
 go_upto_region 4 with (go_big_may; first | (refine L_build0 (d := some 10) rfl rfl rfl Tryd.underlying30 el_uint8 el_api_Digest ?_) | (refine L_allocA (d := some 3) rfl rfl rfl el_api_Digest ?_; (try clear hnew); intro g3 W3 hnew; replace hst := hst.trans hnew; simp only [List.cons_append, List.nil_append] at hst) | (refine wpl_at (.store 30 (.tmp 3) (.tmp 10)) rfl ?_; (refine L_storeA rfl rfl hst rfl (by rfl) (ev_tmp rfl) (by (exact Dig.one _)) el_api_Digest (by (rfl)) 0 rfl (by (rfl)) ?_; clear hst; intro WS2 hst; simp only [List.set_cons_zero, List.set_cons_succ] at hst)))
 go_wp2_with (fail)
 go_loopg [13, 4, 5] 1 (fun gk s13 s4 s5 wr => ∃ i : Nat, Hid (gk + i = 1) ∧ s13 = .int .i64 (i : Int) ∧ i = 0 ∧ St w wr [.blk g3 30 zeroD.arr])
 case atStart => exact ⟨0, Lib.hid rfl, rfl, rfl, hst.pick [0] (by decide)⟩
 case round =>
  clear hst
  obtain ⟨i, HI, rfl, hi0, hst⟩ := hrel
  subst hi0
  generalize hzz : zeroD = z0 at *
  clear hzz
  rcases hl with rfl | rfl
  all_goals
   go_upto_region 6 with (go_big_may; fail)
   go_upto_region 7 with (go_big_may; first | (refine L_loadM (d := some 17) rfl rfl rfl (by rfl) Tryd.underlying138 rfl el_api_Contact (HC.out _ _ _ hr16) (ntArr_size _ _ _) ?_) | (refine L_idxS (d := some 16) rfl rfl rfl (by rfl) (by rfl) Tryd.underlying74 el_api_Contact (by (exact hst.old (by decide) HX.out)) (by omega) (by omega) ?_; intro o16 p16 ha16 hr16; ((subst ha16))) | (refine L_allocA (d := some 5) rfl rfl rfl el_api_Contact ?_; (try clear hnew); intro g5 W5 hnew; replace hst := hst.trans hnew; simp only [List.cons_append, List.nil_append] at hst) | (refine wpl_at (.store 138 (.tmp 5) (.tmp 17)) rfl ?_; (refine L_storeA rfl rfl hst rfl (by rfl) (ev_tmp rfl) (by (exact ntArr_all _ _ _)) el_api_Contact (by (exact ntArr_size _ _ _)) 0 rfl (by (rfl)) ?_; clear hst; intro WS5 hst; simp only [List.set_cons_zero, List.set_cons_succ] at hst)))
   go_upto_region 9 with (go_big_may; first | (go_at_call 52; (try clear hnew); refine (HN.out _).mono ?_; rintro e Wk1 ⟨rfl, hnew⟩; replace hst := hst.keep hnew) | (refine L_load1 (d := some 20) rfl rfl rfl (by rfl) Tryd.underlying9 rfl (by (exact cell_of (hst.get 0 rfl) ntArr_0)) ?_))
   (try clear hnew)
   refine wp_region_idx [(0, 2), (1, 2), (2, 2), (3, 0), (4, 0), (5, 0), (6, 2), (7, 2), (8, 2), (9, 2), (10, 2), (11, 2), (12, 2), (13, 2)] (by kernel_rfl) (by kernel_rfl) ?_
   replace hst := hst.drew
   refine idx_g rfl ?_; go_wp2_with fail; refine ⟨by (exact Below.refl _ _), ?_⟩
   refine idx_g rfl ?_; go_wp2_with fail; refine ⟨by (exact Below.refl _ _), ?_⟩
   refine idx_g rfl ?_; go_wp2_with fail; refine ⟨by (exact Below.refl _ _), ?_⟩
   refine idx_qf rfl rfl (by kernel_rfl) ?_; go_wp2_with (fail)
   refine idx_q rfl rfl ?_; go_wp2_with (fail)
   refine idx_q rfl rfl ?_; go_wp2_with (fail)
   refine idx_g rfl ?_; go_wp2_with (fail); refine ⟨by (exact Below.refl _ _), ?_⟩
   refine idx_g rfl ?_; go_wp2_with (fail); refine ⟨by (exact Below.refl _ _), ?_⟩
   refine idx_g rfl ?_; go_wp2_with (fail); refine ⟨by (exact Below.refl _ _), ?_⟩
   refine idx_g rfl ?_; go_wp2_with (fail); refine ⟨by (exact Below.refl _ _), ?_⟩
   refine idx_g rfl ?_; go_wp2_with (fail); refine ⟨by (exact Below.refl _ _), ?_⟩
   refine idx_g rfl ?_; go_wp2_with (fail); refine ⟨by (exact Below.refl _ _), ?_⟩
   refine idx_g rfl ?_; go_wp2_with fail; refine ⟨by (exact Below.refl _ _), ?_⟩
   refine idx_g rfl ?_; go_wp2_with fail; refine ⟨by (exact Below.refl _ _), ?_⟩
   refine idx_nil ?_
   go_upto_region 11 with fail
   go_upto_region 13 with (go_big_may; first | (refine L_load1 (d := some 41) rfl rfl rfl (by rfl) Tryd.underlying3 rfl (by (exact cell_of (hst.get 0 rfl) ntArr_33)) ?_) | (refine L_load1 (d := some 45) rfl rfl rfl (by rfl) Tryd.underlying3 rfl (by (exact cell_of (hst.get 0 rfl) ntArr_33)) ?_))
   refine wp_region_idx [(0, 0), (1, 0), (2, 0), (4, 0), (5, 0), (6, 0), (7, 0), (3, 2), (8, 2), (9, 2)] (by kernel_rfl) (by kernel_rfl) ?_
   replace hst := hst.drew
   refine idx_qf rfl rfl (by kernel_rfl) ?_; go_wp2_with fail
   refine idx_q rfl rfl ?_; go_wp2_with (((refine L_loadM (d := some 51) rfl rfl rfl (by rfl) Tryd.underlying30 rfl el_api_Digest (by (exact ntArr_key (hst.get 0 rfl))) (by (exact Dig.size _)) ?_)))
   refine idx_q rfl rfl ?_; go_wp2_with (((refine L_loadA (d := some 52) rfl rfl rfl (by rfl) Tryd.underlying30 rfl el_api_Digest (by (exact hst.get 1 rfl)) (by (exact Dig.size _)) ?_)))
   refine idx_qf rfl rfl (by kernel_rfl) ?_; go_wp2_with fail
   refine idx_q rfl rfl ?_; go_wp2_with ((refine L_load1 (d := some 55) rfl rfl rfl (by rfl) Tryd.underlying3 rfl (by (exact cell_of (hst.get 0 rfl) ntArr_33)) ?_))
   refine idx_q rfl rfl ?_; go_wp2_with fail
   refine idx_q rfl rfl ?_; go_wp2_with fail
   refine idx_g rfl ?_; go_wp2_with ((refine L_eqD (d := some 53) rfl rfl rfl Tryd.underlying30 Tryd.underlying5 el_uint8 eqG_D (ev_tmp rfl) (ev_tmp rfl) ?_; (try rw [HZ.out]))); refine ⟨by (exact Below.refl _ _), ?_⟩
   refine idx_g rfl ?_; go_wp2_with fail; refine ⟨by (exact Below.refl _ _), ?_⟩
   refine idx_g rfl ?_; go_wp2_with fail; refine ⟨by (exact Below.refl _ _), ?_⟩
   refine idx_nil ?_
   go_wp2_with (fail)
   go_ret
   exact ⟨rfl, hst.forget⟩
set_option maxHeartbeats 4000000 in
set_option maxRecDepth 100000 in
theorem join_zero {K : List UInt8 → Dig} (a : List NoteN) (A : Option Addr) (n ca : Nat) (s : List UInt8) (l : Int) (B : Option Addr) (cb : Nat) (w : World) (hx : SlR w A n ca 34 (notesL a)) (hsa : SortB a) (hka : ∀ c ∈ a, OkC K c) (hl : n ≤ 40) (hy : SlR w B 1 cb 34 (ntArr s zeroD l).toList) (hs : isNm s = true) (hl2 : l = 1 ∨ l = 3) :
  Calls Tryd.prog 35 #[.slice A n ca, .slice B 1 cb] w fun e w' => e = .returned (.tuple #[.slice none 0 0, errV 9]) ∧ St w w' [] := by
 have hst := St.refl w
 have HX := Lib.hid hx
 have HY := Lib.hid hy
 have HCa := Lib.hid (fun (w' : World) (h : SlR w' A n ca 34 (notesL a)) => check_ok a A n ca w' h hsa hka hl)
 have HCb := Lib.hid (fun (w' : World) (h : SlR w' B 1 cb 34 (ntArr s zeroD l).toList) => check_zero s l B cb w' h hs hl2)
 clear hx hy hsa hka hs hl2
 go_enter Tryd.func35, Tryd.ntmps35
 go_upto_region 1 with (go_big_may; fail)
 go_upto_region 2 with (go_big_may; (go_at_call 74; (try clear hnew); refine (HCa.out _ (hst.old (by decide) HX.out)).mono ?_; rintro e Wk2 ⟨rfl, hnew⟩; replace hst := hst.keep hnew))
 (try clear hnew)
 go_upto_region 4 with (go_big_may; fail)
 go_upto_region 5 with (go_big_may; (go_at_call 74; (try clear hnew); refine (HCb.out _ (hst.old (by decide) HY.out)).mono ?_; unfold errV; rintro e Wj ⟨rfl, hnew⟩; replace hst := hst.keep hnew))
 go_upto_region 6 with (go_big_may; fail)
 go_wp2_with (fail)
 go_ret2
 exact ⟨rfl, hst.forget⟩
set_option maxHeartbeats 4000000 in
set_option maxRecDepth 100000 in
theorem meet_ok {K : List UInt8 → Dig} (b : List NoteN) (B : Option Addr) (n c : Nat) (s : List UInt8) (k : Dig) (w : World) (hx : SlR w B n c 34 (notesL b)) (hs : SortB b) (hk : ∀ c ∈ b, OkC K c) (hl : n ≤ 39) (ho : OkC K ⟨s, k, 1⟩) :
  Calls Tryd.prog 73 #[.slice B n c, .string (bsOf s), k.v] w fun e w' => ∃ O oc, e = .returned (.tuple #[.slice O (mergeN b [⟨s, k, 1⟩]).length oc, .nilIface]) ∧ St w w' [.row O (mergeN b [⟨s, k, 1⟩]).length oc 138 34 (notesL (mergeN b [⟨s, k, 1⟩]))] := by
 have hst := St.refl w
 have HX := Lib.hid hx
 have HJ := Lib.hid (fun (X : Option Addr) (xc : Nat) (w' : World) (h1 : SlR w' B n c 34 (notesL b)) (h2 : SlR w' X 1 xc 34 (ntArr s k 1).toList) => join_ok (K := K) b [⟨s, k, 1⟩] B n c X 1 xc w' h1 (by rw [notesL_one]; exact h2) hs (List.pairwise_singleton _ _) hk (fun c hc => by rw [List.mem_singleton.1 hc]; exact ho) (by omega))
 generalize mergeN b [⟨s, k, 1⟩] = r at *
 clear hx hs hk ho
 go_enter Tryd.func73, Tryd.ntmps73
 go_upto_region 1 with (go_big_may; (refine L_boxA (d := some 5) rfl rfl rfl (ev_tmp rfl) ?_; (try clear hnew); intro g5 W5 hnew; replace hst := hst.trans hnew; simp only [List.cons_append, List.nil_append] at hst))
 go_wp2_with (first | (refine L_buildC (d := some 11) rfl rfl rfl (ev_tmp rfl) (ev_tmp rfl) ev_const ?_) | (go_at_call 35; (try clear hnew); refine (HJ.out _ _ _ (hst.old (by decide) HX.out) (hst.sl 0 rfl)).mono ?_; rintro e Wj ⟨O, oc, rfl, hnew⟩; replace hst := hst.trans hnew; simp only [List.cons_append, List.nil_append] at hst) | ((refine L_loadA (d := some 10) rfl rfl rfl (by rfl) Tryd.underlying30 rfl el_api_Digest (by (exact hst.get 0 rfl)) (by (exact Dig.size _)) ?_)) | (refine L_buildS (d := some 12) rfl rfl rfl [_] (bs_1 (ev_tmp rfl)) rfl Tryd.underlying74 el_api_Contact rfl (by (simp [Value.cells]; done)) (by decide) (by decide) ?_; (try clear hnew); intro g12 W12 hnew; replace hst := hst.trans hnew; simp only [List.cons_append, List.nil_append] at hst; simp only [List.flatMap_cons, List.flatMap_nil, List.append_nil, Value.cells, List.toList_toArray] at hst))
 go_ret2
 exact ⟨O, oc, rfl, hst.pick [0] (by decide)⟩
set_option maxHeartbeats 4000000 in
set_option maxRecDepth 100000 in
theorem meet_zero {K : List UInt8 → Dig} (b : List NoteN) (B : Option Addr) (n c : Nat) (s : List UInt8) (w : World) (hx : SlR w B n c 34 (notesL b)) (hs : SortB b) (hk : ∀ c ∈ b, OkC K c) (hl : n ≤ 39) (hn : isNm s = true) :
  Calls Tryd.prog 73 #[.slice B n c, .string (bsOf s), zeroD.v] w fun e w' => e = .returned (.tuple #[.slice none 0 0, errV 9]) ∧ St w w' [] := by
 have hst := St.refl w
 have HX := Lib.hid hx
 have HJ := Lib.hid (fun (X : Option Addr) (xc : Nat) (w' : World) (h1 : SlR w' B n c 34 (notesL b)) (h2 : SlR w' X 1 xc 34 (ntArr s zeroD 1).toList) => join_zero (K := K) b B n c s 1 X xc w' h1 hs hk (by omega) h2 hn (by decide))
 generalize zeroD = z0 at *
 clear hx hs hk hn
 go_enter Tryd.func73, Tryd.ntmps73
 go_upto_region 1 with (go_big_may; (refine L_boxA (d := some 5) rfl rfl rfl (ev_tmp rfl) ?_; (try clear hnew); intro g5 W5 hnew; replace hst := hst.trans hnew; simp only [List.cons_append, List.nil_append] at hst))
 go_wp2_with (first | (refine L_buildC (d := some 11) rfl rfl rfl (ev_tmp rfl) (ev_tmp rfl) ev_const ?_) | (go_at_call 35; (try clear hnew); refine (HJ.out _ _ _ (hst.old (by decide) HX.out) (hst.sl 0 rfl)).mono ?_; unfold errV; rintro e Wj ⟨rfl, hnew⟩; replace hst := hst.keep hnew) | ((refine L_loadA (d := some 10) rfl rfl rfl (by rfl) Tryd.underlying30 rfl el_api_Digest (by (exact hst.get 0 rfl)) (by (exact Dig.size _)) ?_)) | (refine L_buildS (d := some 12) rfl rfl rfl [_] (bs_1 (ev_tmp rfl)) rfl Tryd.underlying74 el_api_Contact rfl (by (simp [Value.cells]; done)) (by decide) (by decide) ?_; (try clear hnew); intro g12 W12 hnew; replace hst := hst.trans hnew; simp only [List.cons_append, List.nil_append] at hst; simp only [List.flatMap_cons, List.flatMap_nil, List.append_nil, Value.cells, List.toList_toArray] at hst))
 go_ret2
 exact ⟨rfl, hst.forget⟩
set_option maxHeartbeats 4000000 in
set_option maxRecDepth 100000 in
theorem trust_ok {K : List UInt8 → Dig} (b : List NoteN) (B : Option Addr) (n c : Nat) (s : List UInt8) (k : Dig) (w : World) (hx : SlR w B n c 34 (notesL b)) (hs : SortB b) (hk : ∀ c ∈ b, OkC K c) (hl : n ≤ 39) (ho : OkC K ⟨s, k, 3⟩) :
  Calls Tryd.prog 72 #[.slice B n c, .string (bsOf s), k.v] w fun e w' => ∃ O oc, e = .returned (.tuple #[.slice O (mergeN b [⟨s, k, 3⟩]).length oc, .nilIface]) ∧ St w w' [.row O (mergeN b [⟨s, k, 3⟩]).length oc 138 34 (notesL (mergeN b [⟨s, k, 3⟩]))] := by
 have hst := St.refl w
 have HX := Lib.hid hx
 have HJ := Lib.hid (fun (X : Option Addr) (xc : Nat) (w' : World) (h1 : SlR w' B n c 34 (notesL b)) (h2 : SlR w' X 1 xc 34 (ntArr s k 3).toList) => join_ok (K := K) b [⟨s, k, 3⟩] B n c X 1 xc w' h1 (by rw [notesL_one]; exact h2) hs (List.pairwise_singleton _ _) hk (fun c hc => by rw [List.mem_singleton.1 hc]; exact ho) (by omega))
 generalize mergeN b [⟨s, k, 3⟩] = r at *
 clear hx hs hk ho
 go_enter Tryd.func72, Tryd.ntmps72
 go_upto_region 1 with (go_big_may; (refine L_boxA (d := some 5) rfl rfl rfl (ev_tmp rfl) ?_; (try clear hnew); intro g5 W5 hnew; replace hst := hst.trans hnew; simp only [List.cons_append, List.nil_append] at hst))
 go_wp2_with (first | (refine L_buildC (d := some 11) rfl rfl rfl (ev_tmp rfl) (ev_tmp rfl) ev_const ?_) | (go_at_call 35; (try clear hnew); refine (HJ.out _ _ _ (hst.old (by decide) HX.out) (hst.sl 0 rfl)).mono ?_; rintro e Wj ⟨O, oc, rfl, hnew⟩; replace hst := hst.trans hnew; simp only [List.cons_append, List.nil_append] at hst) | ((refine L_loadA (d := some 10) rfl rfl rfl (by rfl) Tryd.underlying30 rfl el_api_Digest (by (exact hst.get 0 rfl)) (by (exact Dig.size _)) ?_)) | (refine L_buildS (d := some 12) rfl rfl rfl [_] (bs_1 (ev_tmp rfl)) rfl Tryd.underlying74 el_api_Contact rfl (by (simp [Value.cells]; done)) (by decide) (by decide) ?_; (try clear hnew); intro g12 W12 hnew; replace hst := hst.trans hnew; simp only [List.cons_append, List.nil_append] at hst; simp only [List.flatMap_cons, List.flatMap_nil, List.append_nil, Value.cells, List.toList_toArray] at hst))
 go_ret2
 exact ⟨O, oc, rfl, hst.pick [0] (by decide)⟩
set_option maxHeartbeats 4000000 in
set_option maxRecDepth 100000 in
theorem trust_zero {K : List UInt8 → Dig} (b : List NoteN) (B : Option Addr) (n c : Nat) (s : List UInt8) (w : World) (hx : SlR w B n c 34 (notesL b)) (hs : SortB b) (hk : ∀ c ∈ b, OkC K c) (hl : n ≤ 39) (hn : isNm s = true) :
  Calls Tryd.prog 72 #[.slice B n c, .string (bsOf s), zeroD.v] w fun e w' => e = .returned (.tuple #[.slice none 0 0, errV 9]) ∧ St w w' [] := by
 have hst := St.refl w
 have HX := Lib.hid hx
 have HJ := Lib.hid (fun (X : Option Addr) (xc : Nat) (w' : World) (h1 : SlR w' B n c 34 (notesL b)) (h2 : SlR w' X 1 xc 34 (ntArr s zeroD 3).toList) => join_zero (K := K) b B n c s 3 X xc w' h1 hs hk (by omega) h2 hn (by decide))
 generalize zeroD = z0 at *
 clear hx hs hk hn
 go_enter Tryd.func72, Tryd.ntmps72
 go_upto_region 1 with (go_big_may; (refine L_boxA (d := some 5) rfl rfl rfl (ev_tmp rfl) ?_; (try clear hnew); intro g5 W5 hnew; replace hst := hst.trans hnew; simp only [List.cons_append, List.nil_append] at hst))
 go_wp2_with (first | (refine L_buildC (d := some 11) rfl rfl rfl (ev_tmp rfl) (ev_tmp rfl) ev_const ?_) | (go_at_call 35; (try clear hnew); refine (HJ.out _ _ _ (hst.old (by decide) HX.out) (hst.sl 0 rfl)).mono ?_; unfold errV; rintro e Wj ⟨rfl, hnew⟩; replace hst := hst.keep hnew) | ((refine L_loadA (d := some 10) rfl rfl rfl (by rfl) Tryd.underlying30 rfl el_api_Digest (by (exact hst.get 0 rfl)) (by (exact Dig.size _)) ?_)) | (refine L_buildS (d := some 12) rfl rfl rfl [_] (bs_1 (ev_tmp rfl)) rfl Tryd.underlying74 el_api_Contact rfl (by (simp [Value.cells]; done)) (by decide) (by decide) ?_; (try clear hnew); intro g12 W12 hnew; replace hst := hst.trans hnew; simp only [List.cons_append, List.nil_append] at hst; simp only [List.flatMap_cons, List.flatMap_nil, List.append_nil, Value.cells, List.toList_toArray] at hst))
 go_ret2
 exact ⟨rfl, hst.forget⟩
def HeardEnd (key : List UInt8) (N : List NoteN) (p : LgP) (b : List NoteN) (B : Option Addr) (n c : Nat) (w0 : World) (L : List Res) (r : Option (List NoteN)) : Ending → World → Prop := fun e w' =>
 match r with
 | none => ∃ k, k ≠ 0 ∧ e = .returned (.tuple #[.slice none 0 0, errV k]) ∧ St w0 w' (.row B n c 138 34 (notesL b) :: (lgL p key N ++ L))
 | some b' => ∃ O oc, e = .returned (.tuple #[.slice O b'.length oc, .nilIface]) ∧ St w0 w' (.row O b'.length oc 138 34 (notesL b') :: (lgL p key N ++ L))
set_option maxHeartbeats 20000000 in
set_option maxRecDepth 100000 in
theorem heard_any (key : List UInt8) (N : List NoteN) (p : LgP) (S : List (List UInt8 × Bool)) (b : List NoteN) (B : Option Addr) (n c : Nat) (s : List UInt8) (t : Bool) (w0 w : World) (C : Option Addr) (cn cc : Nat) (xs : List Value) (hT : Tb w0) (hst : St w0 w (.row B n c 138 34 (notesL b) :: (lgL p key N ++ [.row C cn cc 138 34 xs]))) (hm : MapsOf N p.nm p.am) (hl : Logged N) (hpm : p.m ≤ 140737488355000) (hb : Bk N S b) (hS : S.length ≤ 20) :
  Calls Tryd.prog 34 #[.pointer (some ⟨p.g, 0, none⟩), .slice B n c, .string (bsOf s), .bool t] w (HeardEnd key N p b B n c w0 [.row C cn cc 138 34 xs] (heardB N b s t)) := by
 have HT := Lib.hid hT
 have hbn : b.length = n := note_lenT (hst.sl 0 rfl)
 by_cases hs : isNm s = true
 case neg =>
  have hs' : isNm s = false := by simpa using hs
  have HF := Lib.hid (fun (w' : World) (L' : List Res) h => find_no key N s p w0 w' L' h hs')
  rw [show heardB N b s t = none by unfold heardB; rw [if_neg hs]]
  unfold HeardEnd
  replace hst := St.swap (X := [_]) (Y := lgL p key N) (L := [.row C cn cc 138 34 xs]) hst
  clear hs hs' hm hl hb hT
  go_enter Tryd.func34, Tryd.ntmps34
  go_upto_region 1 with (go_big_may; fail)
  go_upto_region 2 with (go_big_may; first | (go_at_call 30; refine (HF.out _ _ hst).mono ?_; unfold errV; rintro e Wf ⟨rfl, hst'⟩; clear hst; have hst := hst'; clear hst') | (refine L_allocA (d := some 10) rfl rfl rfl el_api_Found ?_; (try clear hnew); intro g10 W10 hnew; replace hst := hst.trans hnew; simp only [List.cons_append, List.nil_append] at hst) | (refine wpl_at (.store 44 (.tmp 10) (.tmp 18)) rfl ?_; (refine L_storeA rfl rfl hst rfl (by rfl) (ev_tmp rfl) (by (exact fdArr_all _ _ _ _ _ _ _ _ _ _)) el_api_Found (by (rfl)) 0 rfl (by (rfl)) ?_; clear hst; intro WS7 hst; simp only [List.set_cons_zero, List.set_cons_succ] at hst)))
  go_upto_region 3 with (go_big_may; fail)
  go_wp2_with (fail)
  go_ret2
  exact ⟨1, by decide, rfl, St.swap (X := lgL p key N) (Y := [_]) (L := [_]) hst.tail⟩
 have HF := Lib.hid (fun (w' : World) (L' : List Res) h => by
  have := findU_any key N s p w0 w' L' HT.out h hm hl hs
  unfold FindEnd at this
  exact this)
 have HH := Lib.hid (fun (w' : World) (ht : Tb w') (h : LgAt w' p key N) => headK_any key N p w' ht h hm hl hpm)
 have ht1 := find_turnB hl s
 have HLk := Lib.hid (fun (w' : World) (z : Dig) (P1 : Option Addr) (c1 : Nat) (P2 : Option Addr) (c2 : Nat) (ht : Tb w') (h1 : SlR w' P1 (findN N s).path.length c1 32 (digsL (findN N s).path)) (h2 : SlR w' P2 (findN N s).mpath.length c2 32 (digsL (findN N s).mpath)) => by
  have := look_any (N.length : Int) (rootN (lvN N)) (mapN N) z s (findN N s) P1 _ c1 P2 _ c2 w' ht h1 h2 ht1.1 ht1.2
  exact this)
 obtain ⟨n1, n2, n3, hn, hlv⟩ := look_valB (toldN N s)
 have hlv2 : lookV (lookN (N.length : Int) (rootN (lvN N)) (mapN N) s (findN N s)) = _ := hlv
 rw [hlv2] at HLk
 have hbl := hb.len
 have hn39 : n ≤ 39 := by omega
 have HBn := Lib.hid hbn
 have HBs := Lib.hid hb.sort
 have HBo := Lib.hid hb.ok
 have HNew := Lib.hid (fun (k : Dig) (l : Int) (hk : k = keyK N s) (hl2 : l = 1 ∨ l = 3) (hz : k ≠ zeroD) => joinE_new hb hS hs hk hl2 hz)
 have HZer := Lib.hid (fun (l : Int) (hl2 : l = 1 ∨ l = 3) => joinE_zero hb hS (s := s) (l := l) hs hl2)
 have HHB := Lib.hid (show heardB N b s t = if (toldN N s).1 = 0 then (match (toldN N s).2 with | none => some b | some n => if joinE b [⟨s, n.key, lvlB t⟩] = 0 then some (mergeN b [⟨s, n.key, lvlB t⟩]) else none) else none by unfold heardB; rw [if_pos hs]; try rfl)
 have HKey := Lib.hid (show keyK N s = match (toldN N s).2 with | some n => n.key | none => zeroD from rfl)
 have HSn := Lib.hid hs
 generalize headR key N = h4 at HH
 generalize rootN (lvN N) = h2 at HH HLk
 generalize mapN N = h3 at HH HLk
 generalize findN N s = F at HF HLk
 obtain ⟨⟨e0, o⟩, ho⟩ : ∃ v, v = toldN N s := ⟨_, rfl⟩
 rw [← ho] at HLk HHB HKey hn
 simp only at HLk HHB HKey hn
 obtain ⟨⟨f1, f2, f3⟩, f4, f5, f6⟩ := F
 simp only at HF HLk
 replace hst := St.swap (X := [_]) (Y := lgL p key N) (L := [.row C cn cc 138 34 xs]) hst
 clear hlv hlv2 ho hbl hb hS hs hm hl hpm hT ht1 hbn
 obtain ⟨is, his⟩ : ∃ q, q = o.isSome := ⟨_, rfl⟩
 rw [← his] at HLk
 have HIs := Lib.hid his
 clear his
 obtain ⟨E, hE⟩ : ∃ q, q = errO e0 := ⟨_, rfl⟩
 rw [← hE] at HLk
 have HE := Lib.hid hE
 clear hE
 go_enter Tryd.func34, Tryd.ntmps34
 go_upto_region 1 with (go_big_may; fail)
 go_upto_region 2 with (go_big_may; first | (go_at_call 30; refine (HF.out _ _ hst).mono ?_; rintro e Wf ⟨P1, c1, P2, c2, rfl, hst'⟩; clear hst; have hst := hst'; clear hst'; simp only [lgL, List.cons_append, List.nil_append] at hst) | (refine L_allocA (d := some 10) rfl rfl rfl el_api_Found ?_; (try clear hnew); intro g10 W10 hnew; replace hst := hst.trans hnew; simp only [List.cons_append, List.nil_append] at hst) | (refine wpl_at (.store 44 (.tmp 10) (.tmp 18)) rfl ?_; (refine L_storeA rfl rfl hst rfl (by rfl) (ev_tmp rfl) (by (exact fdArr_all _ _ _ _ _ _ _ _ _ _)) el_api_Found (by (exact fdArr_size _ _ _ _ _ _ _ _ _ _)) 0 rfl (by (rfl)) ?_; clear hst; intro WS7 hst; simp only [List.set_cons_zero, List.set_cons_succ] at hst)))
 go_upto_region 4 with (go_big_may; fail)
 go_cut [12, 13, 11] (fun s12 s13 s11 wx => ∃ g12, s12 = .pointer (some ⟨g12, 0, none⟩) ∧ s13 = .bool is ∧ s11 = E ∧ St w0 wx (.blk g12 35 (ntArr n1 n2 n3) :: .row B n c 138 34 (notesL b) :: (lgL p key N ++ [.row C cn cc 138 34 xs])))
 case first =>
  (try clear hnew)
  refine wp_region_pm (.one 0 3 (.one 2 3 (.one 3 0 (.two 1 2 (.two 4 2 (.one 5 3 (.one 6 3 (.one 7 3 (.one 8 3 (.one 9 2 (.one 10 1 (.one 11 2 (.one 12 2 .nil)))))))) 9 2 (.one 4 2 (.one 5 2 (.one 6 3 (.one 7 3 (.one 8 3 (.one 10 1 (.one 11 2 (.one 12 2 .nil))))))))) 9 2 (.one 1 2 (.one 4 2 (.one 5 2 (.one 6 3 (.one 7 3 (.one 8 3 (.one 10 1 (.one 11 2 (.one 12 2 .nil))))))))))))) (by kernel_rfl) (by kernel_rfl) ?_
  replace hst := hst.drew
  refine pm_p rfl rfl ?_; go_wp2_with fail
  refine pm_p rfl rfl ?_; go_wp2_with fail
  refine pm_q rfl rfl ?_; go_wp2_with (((refine L_loadA (d := some 27) rfl rfl rfl (by rfl) Tryd.underlying44 rfl el_api_Found (by (exact hst.get 0 rfl)) (by (exact fdArr_size _ _ _ _ _ _ _ _ _ _)) ?_)))
  refine pm_two (ki := 2) (kj := 2) rfl rfl ?_ ?_
  ·go_wp2_with ((go_at_call 14; (try clear hnew); refine (HH.out _ (HT.out.of hst) (by (exact ⟨hst.get 3 rfl, hst.sl 4 rfl, hst.sl 5 rfl, hst.obj 6 rfl, hst.obj 7 rfl⟩))).mono ?_; rintro e Wk3 ⟨rfl, hnew⟩; replace hst := hst.keep hnew)); refine ⟨fun _ => (by (exact hnew.below)), ?_⟩
   refine pm_two (ki := 2) (kj := 2) rfl rfl ?_ ?_
   ·go_wp2_with ((go_at_call 18; (try clear hnew); refine (HLk.out _ _ _ _ _ _ (HT.out.of hst) (by (exact hst.sl 1 rfl)) (by (exact hst.sl 2 rfl))).mono ?_; rintro e Wk4 ⟨rfl, hnew⟩; replace hst := hst.keep hnew)); refine ⟨fun _ => (by (exact hnew.below)), ?_⟩
    refine pm_p rfl rfl ?_; go_wp2_with fail
    refine pm_p rfl rfl ?_; go_wp2_with fail
    refine pm_p rfl rfl ?_; go_wp2_with fail
    refine pm_p rfl rfl ?_; go_wp2_with fail
    refine pm_g rfl ?_; go_wp2_with ((refine L_allocA (d := some 12) rfl rfl rfl el_api_Note ?_; (try clear hnew); intro g12 W12 hnew; replace hst := hst.trans hnew; simp only [List.cons_append, List.nil_append] at hst)); refine ⟨by (exact hnew.below), ?_⟩
    refine pm_e rfl ?_; go_wp2_with ((refine wpl_at (.store 35 (.tmp 12) (.tmp 29)) rfl ?_; (refine L_storeA rfl rfl hst rfl (by rfl) (ev_tmp rfl) (by (exact ntArr_all _ _ _)) el_api_Note (by (exact ntArr_size _ _ _)) 0 rfl (by (rfl)) ?_; clear hst; intro WS10 hst; simp only [List.set_cons_zero, List.set_cons_succ] at hst)))
    refine pm_g rfl ?_; go_wp2_with fail; refine ⟨by (exact Below.refl _ _), ?_⟩
    refine pm_g rfl ?_; go_wp2_with fail; refine ⟨by (exact Below.refl _ _), ?_⟩
    refine pm_nil ?_
    go_wp2_with fail
    go_meet
    case rel => exact ⟨_, rfl, rfl, rfl, hst.pick [0, 9, 4, 5, 6, 7, 8, 10] (by decide)⟩
   ·go_wp2_with ((refine L_allocA (d := some 12) rfl rfl rfl el_api_Note ?_; (try clear hnew); intro g12 W12 hnew; replace hst := hst.trans hnew; simp only [List.cons_append, List.nil_append] at hst)); refine ⟨fun _ => (by (exact hnew.below)), ?_⟩
    refine pm_g rfl ?_; go_wp2_with ((go_at_call 18; (try clear hnew); refine (HLk.out _ _ _ _ _ _ (HT.out.of hst) (by (exact hst.sl 2 rfl)) (by (exact hst.sl 3 rfl))).mono ?_; rintro e Wk4 ⟨rfl, hnew⟩; replace hst := hst.keep hnew)); refine ⟨by (exact hnew.below), ?_⟩
    refine pm_g rfl ?_; go_wp2_with fail; refine ⟨by (exact Below.refl _ _), ?_⟩
    refine pm_p rfl rfl ?_; go_wp2_with fail
    refine pm_p rfl rfl ?_; go_wp2_with fail
    refine pm_p rfl rfl ?_; go_wp2_with fail
    refine pm_e rfl ?_; go_wp2_with ((refine wpl_at (.store 35 (.tmp 12) (.tmp 29)) rfl ?_; (refine L_storeA rfl rfl hst rfl (by rfl) (ev_tmp rfl) (by (exact ntArr_all _ _ _)) el_api_Note (by (exact ntArr_size _ _ _)) 0 rfl (by (rfl)) ?_; clear hst; intro WS10 hst; simp only [List.set_cons_zero, List.set_cons_succ] at hst)))
    refine pm_g rfl ?_; go_wp2_with fail; refine ⟨by (exact Below.refl _ _), ?_⟩
    refine pm_g rfl ?_; go_wp2_with fail; refine ⟨by (exact Below.refl _ _), ?_⟩
    refine pm_nil ?_
    go_wp2_with fail
    go_meet
    case rel => exact ⟨_, rfl, rfl, rfl, hst.pick [0, 9, 4, 5, 6, 7, 8, 10] (by decide)⟩
  ·go_wp2_with ((refine L_allocA (d := some 12) rfl rfl rfl el_api_Note ?_; (try clear hnew); intro g12 W12 hnew; replace hst := hst.trans hnew; simp only [List.cons_append, List.nil_append] at hst)); refine ⟨fun _ => (by (exact hnew.below)), ?_⟩
   refine pm_g rfl ?_; go_wp2_with ((go_at_call 14; (try clear hnew); refine (HH.out _ (HT.out.of hst) (by (exact ⟨hst.get 4 rfl, hst.sl 5 rfl, hst.sl 6 rfl, hst.obj 7 rfl, hst.obj 8 rfl⟩))).mono ?_; rintro e Wk3 ⟨rfl, hnew⟩; replace hst := hst.keep hnew)); refine ⟨by (exact hnew.below), ?_⟩
   refine pm_g rfl ?_; go_wp2_with ((go_at_call 18; (try clear hnew); refine (HLk.out _ _ _ _ _ _ (HT.out.of hst) (by (exact hst.sl 2 rfl)) (by (exact hst.sl 3 rfl))).mono ?_; rintro e Wk4 ⟨rfl, hnew⟩; replace hst := hst.keep hnew)); refine ⟨by (exact hnew.below), ?_⟩
   refine pm_g rfl ?_; go_wp2_with fail; refine ⟨by (exact Below.refl _ _), ?_⟩
   refine pm_p rfl rfl ?_; go_wp2_with fail
   refine pm_p rfl rfl ?_; go_wp2_with fail
   refine pm_p rfl rfl ?_; go_wp2_with fail
   refine pm_e rfl ?_; go_wp2_with ((refine wpl_at (.store 35 (.tmp 12) (.tmp 29)) rfl ?_; (refine L_storeA rfl rfl hst rfl (by rfl) (ev_tmp rfl) (by (exact ntArr_all _ _ _)) el_api_Note (by (exact ntArr_size _ _ _)) 0 rfl (by (rfl)) ?_; clear hst; intro WS10 hst; simp only [List.set_cons_zero, List.set_cons_succ] at hst)))
   refine pm_g rfl ?_; go_wp2_with fail; refine ⟨by (exact Below.refl _ _), ?_⟩
   refine pm_g rfl ?_; go_wp2_with fail; refine ⟨by (exact Below.refl _ _), ?_⟩
   refine pm_nil ?_
   go_wp2_with fail
   go_meet
   case rel => exact ⟨_, rfl, rfl, rfl, hst.pick [0, 9, 4, 5, 6, 7, 8, 10] (by decide)⟩
 case rest =>
  obtain ⟨g12, rfl, rfl, h11, hst⟩ := hcut
  clear HF HH HLk
  by_cases c0 : e0 = 0
  case neg =>
   have HVal := Lib.hid (show heardB N b s t = none by rw [HHB.out, if_neg c0])
   have hE2 := h11.trans (show E = errV e0 by rw [HE.out]; exact if_neg c0)
   clear h11
   unfold errV at hE2
   subst hE2
   go_upto_region 6 with (go_big_may; fail)
   go_wp2_with (fail)
   go_ret2
   rw [HVal.out]
   exact ⟨e0, c0, rfl, hst.tail⟩
  have hE2 := h11.trans (show E = Value.nilIface by rw [HE.out, c0]; rfl)
  clear h11
  subst hE2
  have HHB2 := Lib.hid (HHB.out.trans (if_pos c0))
  clear HHB c0
  cases o with
  | none =>
   obtain rfl : is = false := HIs.out
   have HVal := Lib.hid (show heardB N b s t = some b from HHB2.out)
   go_upto_region 7 with (go_big_may; fail)
   go_upto_region 8 with (go_big_may; fail)
   go_wp2_with (fail)
   go_ret2
   rw [HVal.out]
   exact ⟨B, c, by rw [HBn.out]; rfl, by rw [HBn.out]; exact hst.tail⟩
  | some a =>
   obtain rfl : is = true := HIs.out
   obtain rfl : a = ⟨n1, n2, n3⟩ := hn
   have hkk : n2 = keyK N s := HKey.out.symm
   by_cases hz : n2 = zeroD
   ·have HVal := Lib.hid (show heardB N b s t = none by
     rw [HHB2.out]
     simp only
     rw [if_neg]
     rw [hz]
     exact HZer.out (lvlB t) (by cases t <;> simp [lvlB]))
    subst hz
    cases t with
    | true =>
     have HZr := Lib.hid (fun (w' : World) (h : SlR w' B n c 34 (notesL b)) => trust_zero b B n c s w' h HBs.out HBo.out hn39 HSn.out)
     clear HHB2 HNew HZer HKey hkk
     go_upto_region 7 with (go_big_may; fail)
     go_upto_region 9 with (go_big_may; fail)
     go_upto_region 10 with (go_big_may; fail)
     go_wp2_with (first | (go_at_call 72; (try clear hnew); refine (HZr.out _ (hst.sl 1 rfl)).mono ?_; unfold errV; rintro e Wj ⟨rfl, hnew⟩; replace hst := hst.keep hnew) | ((refine L_loadM (d := some 42) rfl rfl rfl (by rfl) Tryd.underlying30 rfl el_api_Digest (by (exact ntArr_key (hst.get 0 rfl))) (by (rfl)) ?_)))
     go_ret2
     rw [HVal.out]
     exact ⟨9, by decide, rfl, hst.tail⟩
    | false =>
     have HZr := Lib.hid (fun (w' : World) (h : SlR w' B n c 34 (notesL b)) => meet_zero b B n c s w' h HBs.out HBo.out hn39 HSn.out)
     clear HHB2 HNew HZer HKey hkk
     go_upto_region 7 with (go_big_may; fail)
     go_upto_region 9 with (go_big_may; fail)
     go_upto_region 11 with (go_big_may; fail)
     go_wp2_with (first | (go_at_call 73; (try clear hnew); refine (HZr.out _ (hst.sl 1 rfl)).mono ?_; unfold errV; rintro e Wj ⟨rfl, hnew⟩; replace hst := hst.keep hnew) | ((refine L_loadM (d := some 49) rfl rfl rfl (by rfl) Tryd.underlying30 rfl el_api_Digest (by (exact ntArr_key (hst.get 0 rfl))) (by (rfl)) ?_)))
     go_ret2
     rw [HVal.out]
     exact ⟨9, by decide, rfl, hst.tail⟩
   ·obtain ⟨q1, q2⟩ := HNew.out n2 (lvlB t) hkk (by cases t <;> simp [lvlB]) hz
    have HVal := Lib.hid (show heardB N b s t = some (mergeN b [⟨s, n2, lvlB t⟩]) by
     rw [HHB2.out]
     simp only
     rw [if_pos q2])
    cases t with
    | true =>
     have HOk := Lib.hid (fun (w' : World) (h : SlR w' B n c 34 (notesL b)) => trust_ok b B n c s n2 w' h HBs.out HBo.out hn39 q1)
     rw [show lvlB true = 3 from rfl] at HVal
     clear HHB2 HNew HZer HKey hkk q1 q2
     go_upto_region 7 with (go_big_may; fail)
     go_upto_region 9 with (go_big_may; fail)
     go_upto_region 10 with (go_big_may; fail)
     go_wp2_with (first | (go_at_call 72; (try clear hnew); refine (HOk.out _ (hst.sl 1 rfl)).mono ?_; rintro e Wj ⟨O, oc, rfl, hnew⟩; replace hst := hst.trans hnew; simp only [List.cons_append, List.nil_append] at hst) | ((refine L_loadM (d := some 42) rfl rfl rfl (by rfl) Tryd.underlying30 rfl el_api_Digest (by (exact ntArr_key (hst.get 0 rfl))) (by (exact Dig.size _)) ?_)))
     go_ret2
     rw [HVal.out]
     exact ⟨O, oc, rfl, hst.drop ((((List.Sublist.refl _).cons _).cons _).cons_cons _)⟩
    | false =>
     have HOk := Lib.hid (fun (w' : World) (h : SlR w' B n c 34 (notesL b)) => meet_ok b B n c s n2 w' h HBs.out HBo.out hn39 q1)
     rw [show lvlB false = 1 from rfl] at HVal
     clear HHB2 HNew HZer HKey hkk q1 q2
     go_upto_region 7 with (go_big_may; fail)
     go_upto_region 9 with (go_big_may; fail)
     go_upto_region 11 with (go_big_may; fail)
     go_wp2_with (first | (go_at_call 73; (try clear hnew); refine (HOk.out _ (hst.sl 1 rfl)).mono ?_; rintro e Wj ⟨O, oc, rfl, hnew⟩; replace hst := hst.trans hnew; simp only [List.cons_append, List.nil_append] at hst) | ((refine L_loadM (d := some 49) rfl rfl rfl (by rfl) Tryd.underlying30 rfl el_api_Digest (by (exact ntArr_key (hst.get 0 rfl))) (by (exact Dig.size _)) ?_)))
     go_ret2
     rw [HVal.out]
     exact ⟨O, oc, rfl, hst.drop ((((List.Sublist.refl _).cons _).cons _).cons_cons _)⟩
end Go.Proofs.YtaebeemnipafbaaDoor

set_option linter.unusedSimpArgs false
set_option linter.unusedVariables false
namespace Go.Proofs.YtaebeemnipafbaaDoor
open Go.RowKit
attribute [local simp] ntArr_size
set_option maxHeartbeats 4000000 in
set_option maxRecDepth 100000 in
theorem sameBooks_any (b : List NoteN) (A : Option Addr) (n c : Nat) (B : Option Addr) (d : Nat) (w : World) (hx : SlR w A n c 34 (notesL b)) (hy : SlR w B n d 34 (notesL b)) (hn : n ≤ 1000000) :
  Calls Tryd.prog 36 #[.slice A n c, .slice B n d] w fun e w' => e = .returned (.bool true) ∧ St w w' [] := by
 have hst := St.refl w
 have HBL := Lib.hid (note_lenT hx)
 have HX := Lib.hid hx
 have HY := Lib.hid hy
 clear hx hy
 go_enter Tryd.func36, Tryd.ntmps36
 go_upto_region 1 with (go_big_may; fail)
 go_upto_region 3 with (go_big_may; fail)
 go_wp2_with (fail)
 go_loopg [5] n (fun gk s5 wr => ∃ i : Nat, Hid (gk + i = n) ∧ s5 = .int .i64 (i : Int) ∧ St w wr [])
 case atStart => exact ⟨0, Lib.hid rfl, rfl, hst⟩
 case round =>
  clear hst
  obtain ⟨i, HI, rfl, hst⟩ := hrel
  have hi := HI.out
  by_cases hin : i < n
  ·obtain ⟨g, rfl⟩ : ∃ g, gk = g + 1 := ⟨gk - 1, by omega⟩
   have hil : i < b.length := by rw [HBL.out]; exact hin
   have HC := Lib.hid (fun (W : World) (g off : Nat) h => note_cells (W := W) (g := g) (off := off) (i := i) (ns := b) h hil)
   obtain ⟨x, hxx⟩ : ∃ x, x = b[i] := ⟨_, rfl⟩
   unfold NoteN.arr at HC
   rw [← hxx] at HC
   clear hxx hil hi
   obtain ⟨x1, x2, x3⟩ := x
   simp only at HC
   have HE := Lib.hid (fun w => show (Op.equalIn 10000 138 (.agg (ntArr x1 x2 x3)) (.agg (ntArr x1 x2 x3))).run Tryd.prog w = .ok true w by rw [eqContact]; simp)
   go_upto_region 6 with (go_big_may; fail)
   refine wp_region_idx [(0, 0), (1, 0), (2, 0), (3, 0), (4, 0), (5, 0), (6, 0), (7, 0), (8, 2)] (by kernel_rfl) (by kernel_rfl) ?_
   replace hst := hst.drew
   refine idx_q rfl rfl ?_; go_wp2_with fail
   refine idx_q rfl rfl ?_; go_wp2_with fail
   refine idx_q rfl rfl ?_; go_wp2_with ((refine L_idxS (d := some 19) rfl rfl rfl (by rfl) (by rfl) Tryd.underlying74 el_api_Contact (by (exact hst.old (by decide) HX.out)) (by omega) (by omega) ?_; intro o19 p19 ha19 hr19; ((subst ha19))))
   refine idx_q rfl rfl ?_; go_wp2_with ((refine L_loadM (d := some 20) rfl rfl rfl (by rfl) Tryd.underlying138 rfl el_api_Contact (HC.out _ _ _ hr19) (ntArr_size _ _ _) ?_))
   refine idx_q rfl rfl ?_; go_wp2_with fail
   refine idx_q rfl rfl ?_; go_wp2_with fail
   refine idx_q rfl rfl ?_; go_wp2_with ((refine L_idxS (d := some 23) rfl rfl rfl (by rfl) (by rfl) Tryd.underlying74 el_api_Contact (by (exact hst.old (by decide) HY.out)) (by omega) (by omega) ?_; intro o23 p23 ha23 hr23; ((subst ha23))))
   refine idx_q rfl rfl ?_; go_wp2_with ((refine L_loadM (d := some 24) rfl rfl rfl (by rfl) Tryd.underlying138 rfl el_api_Contact (HC.out _ _ _ hr23) (ntArr_size _ _ _) ?_))
   refine idx_g rfl ?_; go_wp2_with ((refine L_neA (d := some 25) rfl rfl rfl eqG_Contact (ev_tmp rfl) (ev_tmp rfl) (HE.out _) ?_)); refine ⟨by (exact Below.refl _ _), ?_⟩
   refine idx_nil ?_
   go_wp2_with (fail)
   go_roundg g
   case measure => omega
   case rel => exact ⟨i + 1, Lib.hid (by have := HI.out; omega), by go_num, hst⟩
  ·obtain rfl : i = n := by omega
   clear hi hin
   go_upto_region 8 with (go_big_may; fail)
   go_wp2_with (fail)
   go_ret
   exact ⟨rfl, hst⟩
end Go.Proofs.YtaebeemnipafbaaDoor

set_option maxRecDepth 20000
set_option linter.unusedSimpArgs false
set_option linter.unusedVariables false
namespace Go.Proofs.YtaebeemnipafbaaDoor
open Go.ChangeShapes Go.WideShapes Go.ChangeAt Go.RowKit Go.Deep
def intsL (l : List Int) : List Value := l.map fun v => .int .i64 v
theorem length_intsL (l : List Int) : (intsL l).length = l.length := by simp [intsL]
theorem int_at {W : World} {g off i : Nat} {l : List Int} (h : W.rangeAt g (off + (i : Int).toNat * 1) (((intsL l).drop ((i : Int).toNat * 1)).take 1)) (hi : i < l.length) : W.cell? ⟨g, off + (i : Int).toNat * 1, none⟩ = some (.int .i64 l[i]) := by
 have := h 0 (.int .i64 l[i]) (by simp [intsL, hi])
 simpa using this
section
variable {P : Program} {H : Type} {enc : TypeId × Value → H} {W : World} {base : Nat} {spare : Nat → Bool} {held : Bool}
theorem open_intsS {r : Reach} {b0 : Nat} {t t1 : TypeId} {v : Value} {d : DataW H} {p : List MemPlace} (hts : P.underlying t = some (.slice t1)) (ht : P.underlying t1 = some (.int .i64)) (ct : P.cellsOf t1 = 1)
  (hval : Value.okWide P W r b0 t v) (h : DataW.Trod enc P W base spare held t v d p) :
  ∃ A n c l, v = .slice A n c ∧ SlR W A n c 1 (intsL l) ∧ ∀ q ∈ l, (Lit.int .i64 q).wf = true := by
 obtain ⟨a0, len0, cap0, rfl⟩ := okWide_slice hts hval
 obtain ⟨fuel, hf⟩ := h
 rcases open_slice hts hf with ⟨hcs, hx⟩ | ⟨a, len, cap, m, k, D, Pl, hcs, hb, hl, hm, hmm, hx, hel⟩
 ·simp only [Value.cells, List.cons.injEq, Value.slice.injEq, and_true] at hcs
  obtain ⟨rfl, rfl, rfl⟩ := hcs
  exact ⟨none, 0, 0, [], rfl, SlR.nil_ W 1, fun q hq => by cases hq⟩
 ·simp only [Value.cells, List.cons.injEq, Value.slice.injEq, and_true] at hcs
  obtain ⟨rfl, rfl, rfl⟩ := hcs
  rw [ct] at hel
  have hlm : len0 ≤ m := by rw [hmm]; split <;> omega
  obtain ⟨bs, hbs⟩ := choose_below (α := Int) (n := len0) (p := fun i b => W.cells? base (a.add (i * 1)) 1 = some [.int .i64 b] ∧ (Lit.int .i64 b).wf = true) (fun i hi => by
   obtain ⟨cs', k1, k2⟩ := hel i (by omega)
   obtain ⟨b, rfl, _, hw⟩ := DataW.trod_int ht k2
   exact ⟨b, k1, hw⟩)
  have hs := slr_of (W := W) (base := base) (A := some a) (n := len0) (c := cap0) (s := 1) (by decide) (fun i => [.int .i64 (bs i)]) hl hm (fun _ => ⟨a, rfl, fun i hi => (hbs i hi).1⟩)
  refine ⟨some a, len0, cap0, (List.range len0).map bs, rfl, ?_, ?_⟩
  ·have hfl : ∀ l : List Nat, l.flatMap (fun i => [Value.int .i64 (bs i)]) = intsL (l.map bs) := by
    intro l
    induction l with
    | nil => rfl
    | cons x l ih => simp only [List.flatMap_cons, ih, List.map_cons, intsL, List.singleton_append]
   rw [hfl] at hs
   exact hs
  ·intro q hq
   obtain ⟨i, hi, rfl⟩ := List.mem_map.1 hq
   exact (hbs i (List.mem_range.1 hi)).2
end
end Go.Proofs.YtaebeemnipafbaaDoor

set_option maxRecDepth 20000
set_option linter.unusedSimpArgs false
set_option linter.unusedVariables false
namespace Go.Proofs.YtaebeemnipafbaaDoor
open Go.RowKit
attribute [local simp] hdArr_size ntArr_size
theorem St.ends {w0 W : World} {x y : Res} {M : List Res} (h : St w0 W (x :: (M ++ [y]))) : St w0 W (y :: (M ++ [x])) := by
 refine h.perm ?_
 have h1 : (x :: (M ++ [y])).Perm (x :: y :: M) := (List.perm_append_comm (l₁ := M) (l₂ := [y])).cons x
 have h2 : (y :: x :: M).Perm (y :: (M ++ [x])) := (List.perm_append_comm (l₁ := [x]) (l₂ := M)).cons y
 exact h1.trans ((List.Perm.swap y x M).trans h2)
def nmAt (ns : List NoteN) (j : Nat) : List UInt8 := (ns[j]?.getD zeroNt).name
def pairsA (ns : List NoteN) (tr : Nat → Bool) (i : Nat) : List (List UInt8 × Bool) := (List.range i).map fun j => (nmAt ns j, tr j)
def pairsB (ns : List NoteN) (tr : Nat → Bool) (l : List Int) : List (List UInt8 × Bool) := l.map fun q => (nmAt ns q.toNat, tr q.toNat)
theorem pairsA_s (ns : List NoteN) (tr : Nat → Bool) (i : Nat) : pairsA ns tr (i + 1) = pairsA ns tr i ++ [(nmAt ns i, tr i)] := by simp [pairsA, List.range_succ]
theorem pairsB_s (ns : List NoteN) (tr : Nat → Bool) (l : List Int) (i : Nat) (h : i < l.length) : pairsB ns tr (l.take (i + 1)) = pairsB ns tr (l.take i) ++ [(nmAt ns l[i].toNat, tr l[i].toNat)] := by
 unfold pairsB
 rw [List.take_succ_eq_append_getElem h, List.map_append]
 rfl
theorem length_pairsA (ns : List NoteN) (tr : Nat → Bool) (i : Nat) : (pairsA ns tr i).length = i := by simp [pairsA]
theorem pairs_all (ns : List NoteN) (tr : Nat → Bool) (l : List Int) (n : Nat) (hl : l.length = n) (hd : l.Nodup) (hr : ∀ q ∈ l, 0 ≤ q ∧ q < (n : Int)) : ∀ p, p ∈ pairsA ns tr n ↔ p ∈ pairsB ns tr l := by
 have hd2 : (l.map Int.toNat).Nodup := by
  refine List.Pairwise.map _ (R := fun a b => (0 ≤ a ∧ 0 ≤ b) ∧ a ≠ b) ?_ ?_
  ·rintro a b ⟨⟨h1, h2⟩, h3⟩ e
   exact h3 (by omega)
  ·exact (List.pairwise_iff_getElem.2 fun i j hi hj hij => ⟨⟨(hr _ (List.getElem_mem hi)).1, (hr _ (List.getElem_mem hj)).1⟩, List.pairwise_iff_getElem.1 hd i j hi hj hij⟩)
 have hall := order_all hd2 (n := n) (fun i hi => by
  obtain ⟨q, hq, rfl⟩ := List.mem_map.1 hi
  have := hr q hq
  omega) (by rw [List.length_map, hl])
 intro p
 constructor
 ·intro hp
  obtain ⟨j, hj, rfl⟩ := List.mem_map.1 hp
  obtain ⟨q, hq, e⟩ := List.mem_map.1 (hall j (List.mem_range.1 hj))
  exact List.mem_map.2 ⟨q, hq, by rw [e]⟩
 ·intro hp
  obtain ⟨q, hq, rfl⟩ := List.mem_map.1 hp
  have := hr q hq
  exact List.mem_map.2 ⟨q.toNat, List.mem_range.2 (by omega), rfl⟩
def BookInv (N : List NoteN) (ns : List NoteN) (tr : Nat → Bool) (l : List Int) (n i : Nat) (a b : List NoteN) : Prop :=
 Bk N (pairsA ns tr i) a ∧ Bk N (pairsB ns tr (l.take i)) b ∧ (l.take i).Nodup ∧ ∀ q ∈ l.take i, 0 ≤ q ∧ q < (n : Int)
theorem BookInv.next {N ns : List NoteN} {tr : Nat → Bool} {l : List Int} {n i : Nat} {a b a' b' : List NoteN} (h : BookInv N ns tr l n i a b) (hi : i < l.length) (ha : heardB N a (nmAt ns i) (tr i) = some a') (hb : heardB N b (nmAt ns l[i].toNat) (tr l[i].toNat) = some b') (hne : ∀ x ∈ l.take i, x ≠ l[i]) (hr : 0 ≤ l[i] ∧ l[i] < (n : Int)) : BookInv N ns tr l n (i + 1) a' b' := by
 obtain ⟨h1, h2, h3, h4⟩ := h
 refine ⟨by rw [pairsA_s]; exact h1.heard ha, by rw [pairsB_s _ _ _ _ hi]; exact h2.heard hb, ?_, ?_⟩
 ·rw [List.take_succ_eq_append_getElem hi, List.nodup_append]
  exact ⟨h3, by simp, fun x hx y hy e => hne x hx (by rw [List.mem_singleton.1 hy] at e; exact e)⟩
 ·rw [List.take_succ_eq_append_getElem hi]
  intro q hq
  rcases List.mem_append.1 hq with hq | hq
  ·exact h4 q hq
  ·rw [List.mem_singleton.1 hq]; exact hr
set_option maxHeartbeats 80000000 in
set_option maxRecDepth 100000 in
theorem topBook_any (w : World) (hT : Tb w) (key : List UInt8) (K : Option Addr) (m mc : Nat) (hk : SlR w K m mc 1 (bytesL key)) (hm0 : m * 1 ≤ 140737488351232) (ns : List NoteN) (A : Option Addr) (n nc : Nat) (hx : SlR w A n nc 34 (notesL ns))
  (tr : Nat → Bool) (B : Option Addr) (bn bc : Nat) (hb : SlR w B bn bc 1 ((List.range bn).map fun i => .bool (tr i))) (l : List Int) (C : Option Addr) (cn cc : Nat) (hc : SlR w C cn cc 1 (intsL l)) (hl0 : ∀ q ∈ l, -9223372036854775808 ≤ q ∧ q ≤ 9223372036854775807) :
  Calls Tryd.prog 8 #[.slice K m mc, .slice A n nc, .slice B bn bc, .slice C cn cc] w fun e w' => e = .returned (.bool true) ∧ St w w' [] := by
 have hst := St.refl w
 have HT := Lib.hid hT
 have hl : ns.length = n := by have := hx.1; rw [length_notesL] at this; omega
 have hlc : l.length = cn := by have := hc.1; rw [length_intsL] at this; omega
 have HX := Lib.hid hx
 have HB := Lib.hid hb
 have HCi := Lib.hid hc
 have HL := Lib.hid hl
 have HLc := Lib.hid hlc
 have HG := Lib.hid (fun w' (h : SlR w' K m mc 1 (bytesL key)) => lnew_any key K m mc w' h (by omega))
 have hm : m ≤ 140737488351232 := by omega
 clear hT hx hb hc hl hlc hm0 hl0
 go_enter Tryd.func8, Tryd.ntmps8
 by_cases h20 : 20 < (n : Int)
 ·skip
  go_upto_region 1 with (go_big_may; fail)
  go_upto_region 2 with (go_big_may; (go_at_call 33; refine (addedT_any _ (HT.out.of hst)).mono ?_; rintro e Wd ⟨rfl, hnew⟩; replace hst := hst.keep hnew; clear hnew))
  go_upto_region 3 with (go_big_may; (go_at_call 22; refine (HG.out _ (hst.old (by decide) hk)).mono ?_; rintro e Wl ⟨p, rfl, hpm, hmp, hnew⟩; replace hst := hst.trans hnew; clear hnew))
  go_upto_region 5 with (go_big_may; fail)
  go_upto_region 6 with (go_big_may; fail)
  go_wp2_with (fail)
  go_ret
  exact ⟨rfl, hst.forget⟩
 by_cases hbn : (bn : Int) < (n : Int)
 ·skip
  go_upto_region 1 with (go_big_may; fail)
  go_upto_region 2 with (go_big_may; (go_at_call 33; refine (addedT_any _ (HT.out.of hst)).mono ?_; rintro e Wd ⟨rfl, hnew⟩; replace hst := hst.keep hnew; clear hnew))
  go_upto_region 3 with (go_big_may; (go_at_call 22; refine (HG.out _ (hst.old (by decide) hk)).mono ?_; rintro e Wl ⟨p, rfl, hpm, hmp, hnew⟩; replace hst := hst.trans hnew; clear hnew))
  go_upto_region 5 with (go_big_may; fail)
  go_upto_region 6 with (go_big_may; fail)
  go_wp2_with (fail)
  go_ret
  exact ⟨rfl, hst.forget⟩
 by_cases hcn : cn = n
 case neg =>
  have hcn' : ((cn : Int) != (n : Int)) = true := by simp; omega
  go_upto_region 1 with (go_big_may; fail)
  go_upto_region 2 with (go_big_may; (go_at_call 33; refine (addedT_any _ (HT.out.of hst)).mono ?_; rintro e Wd ⟨rfl, hnew⟩; replace hst := hst.keep hnew; clear hnew))
  go_upto_region 3 with (go_big_may; (go_at_call 22; refine (HG.out _ (hst.old (by decide) hk)).mono ?_; rintro e Wl ⟨p, rfl, hpm, hmp, hnew⟩; replace hst := hst.trans hnew; clear hnew))
  go_upto_region 5 with (go_big_may; fail)
  go_upto_region 6 with (go_big_may; fail)
  go_wp2_with (fail)
  go_ret
  exact ⟨rfl, hst.forget⟩
 obtain rfl : cn = n := hcn
 go_upto_region 1 with (go_big_may; fail)
 go_upto_region 2 with (go_big_may; (go_at_call 33; refine (addedT_any _ (HT.out.of hst)).mono ?_; rintro e Wd ⟨rfl, hnew⟩; replace hst := hst.keep hnew; clear hnew))
 go_upto_region 3 with (go_big_may; (go_at_call 22; refine (HG.out _ (hst.old (by decide) hk)).mono ?_; rintro e Wl ⟨p, rfl, hpm, hmp, hnew⟩; replace hst := hst.trans hnew; clear hnew))
 go_upto_region 5 with (go_big_may; fail)
 go_upto_region 7 with (go_big_may; fail)
 go_wp2_with (fail)
 clear HG
 have h20' : cn ≤ 20 := by omega
 have hbn' : cn ≤ bn := by omega
 obtain ⟨gl, hgl⟩ : ∃ g, g = p.g := ⟨_, rfl⟩
 rw [← hgl]
 have hd1 : decide ((20 : Int) < (cn : Int)) = false := decide_eq_false (by omega)
 have hd2 : decide (bn < cn) = false := decide_eq_false (by omega)
 have hd3 : ((cn : Int) != (cn : Int)) = false := by simp
 try simp only [hd1, hd2, hd3, Bool.or_false, Bool.false_or, Bool.or_self]
 clear hd1 hd2 hd3 h20 hbn
 go_loopg [11] cn (fun gk s11 wr => ∃ (i : Nat) (N : List NoteN) (q : LgP), Hid (gk + i = cn) ∧ Hid (Logged N ∧ MapsOf N q.nm q.am ∧ q.g = gl ∧ q.m = m) ∧ s11 = .int .i64 (i : Int) ∧ St w wr (lgL q key N ++ []))
 case atStart => exact ⟨0, [], p, Lib.hid rfl, Lib.hid ⟨.nil, hmp, hgl.symm, hpm⟩, rfl, hst⟩
 case round =>
  clear hst hmp hpm hgl
  obtain ⟨i, N, q, HI, HV, rfl, hst⟩ := hrel
  have hi := HI.out
  by_cases hlt : i < cn
  ·obtain ⟨g, rfl⟩ : ∃ g, gk = g + 1 := ⟨gk - 1, by omega⟩
   have hil : i < ns.length := by rw [HL.out]; exact hlt
   have HC := Lib.hid (fun (W : World) (g off : Nat) h => note_name (W := W) (g := g) (off := off) (i := i) (ns := ns) h hil)
   have HC2 := Lib.hid (fun (W : World) (g off : Nat) h => note_key (W := W) (g := g) (off := off) (i := i) (ns := ns) h hil)
   obtain ⟨s, hs⟩ : ∃ q, q = ns[i].name := ⟨_, rfl⟩
   obtain ⟨k, hkk⟩ : ∃ q, q = ns[i].key := ⟨_, rfl⟩
   rw [← hs] at HC
   rw [← hkk] at HC2
   clear hs hkk hil
   obtain ⟨v3, v4, v5, v6⟩ := HV.out
   have HA := Lib.hid (fun (w' : World) (L : List Res) h => addU_any key N s k q w w' L HT.out h v4 v3)
   rw [v5, v6] at HA
   have v3' := v3.addL s k
   generalize addL N s k = N1 at *
   generalize (if addE N s = 0 then (N.length : Int) else 0) = r1 at *
   generalize (if addE N s = 0 then Value.nilIface else errV (addE N s)) = r2 at *
   clear v3 v4 v5 v6 hi HV
   go_upto_region 10 with (go_big_may; fail)
   refine wp_region_idxT [(0, 0), (1, 0), (2, 0), (3, 0), (4, 0), (5, 0), (6, 0), (7, 2), (8, 2), (9, 2), (10, 2), (11, 1)] (by kernel_rfl) (by kernel_rfl) ?_
   replace hst := hst.drew
   refine idx_q rfl rfl ?_; go_wp2_with fail
   refine idx_q rfl rfl ?_; go_wp2_with fail
   refine idx_q rfl rfl ?_; go_wp2_with fail
   refine idx_q rfl rfl ?_; go_wp2_with ((refine L_idxS (d := some 63) rfl rfl rfl (by rfl) (by rfl) Tryd.underlying23 el_api_Note (by (exact hst.old (by decide) HX.out)) (by omega) (by omega) ?_; intro o63 p63 ha63 hr63; ((subst ha63))))
   refine idx_qf rfl rfl (by kernel_rfl) ?_; go_wp2_with fail
   refine idx_q rfl rfl ?_; go_wp2_with ((refine L_load1 (d := some 65) rfl rfl rfl (by rfl) Tryd.underlying9 rfl (HC.out _ _ _ hr63) ?_))
   refine idx_q rfl rfl ?_; go_wp2_with fail
   refine idx_g rfl ?_; go_wp2_with fail; refine ⟨by (exact Below.refl _ _), ?_⟩
   refine idx_g rfl ?_; go_wp2_with ((refine L_idxS (d := some 68) rfl rfl rfl (by rfl) (by rfl) Tryd.underlying23 el_api_Note (by (exact hst.old (by decide) HX.out)) (by omega) (by omega) ?_; intro o68 p68 ha68 hr68; ((obtain ⟨h1, h2⟩ := some_addr ha68; subst h1; subst h2; clear ha68)))); refine ⟨by (exact Below.refl _ _), ?_⟩
   refine idx_g rfl ?_; go_wp2_with fail; refine ⟨by (exact Below.refl _ _), ?_⟩
   refine idx_g rfl ?_; go_wp2_with ((refine L_loadM (d := some 70) rfl rfl rfl (by rfl) Tryd.underlying30 rfl el_api_Digest (HC2.out _ _ _ hr68) (Dig.size _) ?_)); refine ⟨by (exact Below.refl _ _), ?_⟩
   refine idx_e rfl ?_; go_wp2_with ((go_at_call 24; refine (HA.out _ _ hst).mono ?_; rintro e Wa ⟨rfl, q1, u1, u2, u3, hst'⟩; clear hst; have hst := hst'; clear hst'))
   refine idx_nil ?_
   go_wp2_with (fail)
   go_roundg g
   case measure => omega
   case rel => exact ⟨i + 1, N1, q1, Lib.hid (by have := HI.out; omega), Lib.hid ⟨v3', u3, u1, u2⟩, by go_num, hst⟩
  ·obtain rfl : gk = 0 := by omega
   obtain rfl : i = cn := by omega
   clear hi hlt
   go_upto_region 11 with (go_big_may; fail)
   go_upto_region 12 with (go_big_may; fail)
   go_upto_region 13 with (go_big_may; fail)
   go_wp2_with (fail)
   rw [List.append_nil] at hst
   have hst2 : St w wr (.row none 0 0 138 34 (notesL []) :: (lgL q key N ++ [.row none 0 0 138 34 (notesL [])])) :=
    ((hst.nilRow 138 34).nilRow 138 34).perm ((List.perm_append_comm (l₁ := [Res.row none 0 0 138 34 (notesL [])]) (l₂ := lgL q key N)).cons _)
   clear hst
   have hst := hst2
   clear hst2
   go_loopg [12, 13, 14] i (fun gk s12 s13 s14 wr => ∃ (j : Nat) (a b : List NoteN) (Ra : Option Addr) (ca : Nat) (Rb : Option Addr) (cb : Nat), Hid (gk + j = i) ∧ Hid (BookInv N ns tr l i j a b) ∧ s12 = .slice Ra a.length ca ∧ s13 = .slice Rb b.length cb ∧ s14 = .int .i64 (j : Int) ∧
    St w wr (.row Ra a.length ca 138 34 (notesL a) :: (lgL q key N ++ [.row Rb b.length cb 138 34 (notesL b)])))
   case atStart => exact ⟨0, [], [], none, 0, none, 0, Lib.hid rfl, Lib.hid ⟨Bk.nil N, Bk.nil N, by simp, by simp⟩, rfl, rfl, rfl, hst⟩
   case round =>
    clear hst
    obtain ⟨j, a, b, Ra, ca, Rb, cb, HJ, HW, rfl, rfl, rfl, hst⟩ := hrel
    have hj := HJ.out
    obtain ⟨v3, v4, v5, v6⟩ := HV.out
    by_cases hjlt : j < i
    ·obtain ⟨g, rfl⟩ : ∃ g, gk = g + 1 := ⟨gk - 1, by omega⟩
     have hjl : j < l.length := by rw [HLc.out]; exact hjlt
     have HK := Lib.hid (fun (W : World) (g off : Nat) h => int_at (W := W) (g := g) (off := off) (i := j) (l := l) h hjl)
     obtain ⟨k, hkk⟩ : ∃ k, k = l[j] := ⟨_, rfl⟩
     rw [← hkk] at HK
     by_cases hk0 : k < 0
     ·clear hkk hj
      go_upto_region 16 with (go_big_may; fail)
      go_upto_region 17 with (go_big_may; first | (refine L_load1 (d := some 81) rfl rfl rfl (by rfl) Tryd.underlying3 rfl (HK.out _ _ _ hr80) ?_) | (refine L_idxS (d := some 80) rfl rfl rfl (by rfl) (by rfl) Tryd.underlying73 el_int (by (exact hst.old (by decide) HCi.out)) (by omega) (by omega) ?_; intro o80 p80 ha80 hr80; ((subst ha80))))
      go_upto_region 18 with (first | (with_reducible refine L_pass (t := 85) rfl (by kernel_rfl) ?_) | (with_reducible refine L_pass (t := 86) rfl (by kernel_rfl) ?_) | (with_reducible refine L_pass (t := 87) rfl (by kernel_rfl) ?_) | (with_reducible refine L_pass (t := 88) rfl (by kernel_rfl) ?_))
      go_wp2_with (fail)
      go_ret
      exact ⟨rfl, hst.forget⟩
     by_cases hkn : (i : Int) ≤ k
     ·clear hkk hj
      go_upto_region 16 with (go_big_may; fail)
      go_upto_region 17 with (go_big_may; first | (refine L_load1 (d := some 81) rfl rfl rfl (by rfl) Tryd.underlying3 rfl (HK.out _ _ _ hr80) ?_) | (refine L_idxS (d := some 80) rfl rfl rfl (by rfl) (by rfl) Tryd.underlying73 el_int (by (exact hst.old (by decide) HCi.out)) (by omega) (by omega) ?_; intro o80 p80 ha80 hr80; ((subst ha80))))
      go_upto_region 18 with (go_big_may; fail)
      go_wp2_with (fail)
      go_ret
      exact ⟨rfl, hst.forget⟩
     obtain ⟨kn, rfl⟩ := Int.eq_ofNat_of_zero_le (show 0 ≤ k by omega)
     have hki : kn < i := by omega
     have HKK := Lib.hid hkk
     have HJl := Lib.hid hjl
     clear hkk hj
     go_upto_region 16 with (go_big_may; fail)
     go_upto_region 17 with (go_big_may; first | (refine L_load1 (d := some 81) rfl rfl rfl (by rfl) Tryd.underlying3 rfl (HK.out _ _ _ hr80) ?_) | (refine L_idxS (d := some 80) rfl rfl rfl (by rfl) (by rfl) Tryd.underlying73 el_int (by (exact hst.old (by decide) HCi.out)) (by omega) (by omega) ?_; intro o80 p80 ha80 hr80; ((subst ha80))))
     go_upto_region 19 with (go_big_may; fail)
     go_wp2_with (fail)
     go_loopg [16] j (fun gk s16 wr => ∃ x : Nat, Hid (gk + x = j) ∧ Hid (∀ y ∈ l.take x, y ≠ (kn : Int)) ∧ s16 = .int .i64 (x : Int) ∧
      St w wr (.row Ra a.length ca 138 34 (notesL a) :: (lgL q key N ++ [.row Rb b.length cb 138 34 (notesL b)])))
     case atStart => exact ⟨0, Lib.hid rfl, Lib.hid (by simp), rfl, hst⟩
     case round =>
      clear hst
      obtain ⟨x, HXx, HNo, rfl, hst⟩ := hrel
      have hxj := HXx.out
      by_cases hxlt : x < j
      ·have hxl : x < l.length := by rw [HLc.out]; omega
       have HKx := Lib.hid (fun (W : World) (g off : Nat) h => int_at (W := W) (g := g) (off := off) (i := x) (l := l) h hxl)
       have HTk := Lib.hid (show l.take (x + 1) = l.take x ++ [l[x]] from List.take_succ_eq_append_getElem hxl)
       obtain ⟨y, hy⟩ : ∃ y, y = l[x] := ⟨_, rfl⟩
       rw [← hy] at HKx HTk
       clear hy hxl
       by_cases hyk : y = (kn : Int)
       ·have hyk' : (y == (kn : Int)) = true := by simp [hyk]
        go_upto_region 22 with (go_big_may; fail)
        go_upto_region 23 with (go_big_may; first | (refine L_load1 (d := some 98) rfl rfl rfl (by rfl) Tryd.underlying3 rfl (HKx.out _ _ _ hr97) ?_) | (refine L_idxS (d := some 97) rfl rfl rfl (by rfl) (by rfl) Tryd.underlying73 el_int (by (exact hst.old (by decide) HCi.out)) (by omega) (by omega) ?_; intro o97 p97 ha97 hr97; ((obtain ⟨h1, h2⟩ := some_addr ha97; subst h1; subst h2; clear ha97))))
        go_wp2_with (fail)
        go_ret
        exact ⟨rfl, hst.forget⟩
       ·have hyk' : (y == (kn : Int)) = false := by simp [hyk]
        go_upto_region 22 with (go_big_may; fail)
        go_upto_region 21 with (go_big_may; first | (refine L_load1 (d := some 98) rfl rfl rfl (by rfl) Tryd.underlying3 rfl (HKx.out _ _ _ hr97) ?_) | (refine L_idxS (d := some 97) rfl rfl rfl (by rfl) (by rfl) Tryd.underlying73 el_int (by (exact hst.old (by decide) HCi.out)) (by omega) (by omega) ?_; intro o97 p97 ha97 hr97; ((obtain ⟨h1, h2⟩ := some_addr ha97; subst h1; subst h2; clear ha97))))
        go_wp2_with (fail)
        go_roundg (gk - 1)
        case measure => omega
        case rel => exact ⟨x + 1, Lib.hid (by have := HXx.out; omega), Lib.hid (fun z hz => by rw [HTk.out] at hz; rcases List.mem_append.1 hz with hz | hz; exact HNo.out z hz; rw [List.mem_singleton.1 hz]; exact hyk), by go_num, hst⟩
      ·obtain rfl : x = j := by omega
       clear hxj hxlt
       go_upto_region 24 with (go_big_may; fail)
       obtain ⟨w1, w2, w3, w4⟩ := HW.out
       have hjl := HJl.out
       have hjn : x < ns.length := by rw [HL.out]; exact hjlt
       have hkl : kn < ns.length := by rw [HL.out]; exact hki
       have hjb : x < bn := by omega
       have hkb : kn < bn := by omega
       have e1 : nmAt ns x = ns[x].name := by unfold nmAt; rw [List.getElem?_eq_getElem hjn]; rfl
       have e2 : nmAt ns kn = ns[kn].name := by unfold nmAt; rw [List.getElem?_eq_getElem hkl]; rfl
       have HC := Lib.hid (fun (W : World) (g off : Nat) h => note_name (W := W) (g := g) (off := off) (i := x) (ns := ns) h hjn)
       have HC2 := Lib.hid (fun (W : World) (g off : Nat) h => note_name (W := W) (g := g) (off := off) (i := kn) (ns := ns) h hkl)
       rw [← e1] at HC
       rw [← e2] at HC2
       have HBc := Lib.hid (fun (W : World) (g off : Nat) h => bool_at (W := W) (g := g) (off := off) (i := x) (n := bn) (f := tr) h hjb)
       have HBc2 := Lib.hid (fun (W : World) (g off : Nat) h => bool_at (W := W) (g := g) (off := off) (i := kn) (n := bn) (f := tr) h hkb)
       have hpb : (pairsB ns tr (l.take x)).length ≤ 20 := by rw [pairsB, List.length_map, List.length_take]; omega
       have HA1 := Lib.hid (fun (w' : World) h => by
        have := heard_any key N q (pairsA ns tr x) a Ra a.length ca (nmAt ns x) (tr x) w w' Rb b.length cb (notesL b) HT.out h v4 v3 (by omega) w1 (by rw [length_pairsA]; omega)
        rw [v5] at this
        exact this)
       have HA2 := Lib.hid (fun (w' : World) (X : Option Addr) (xn xc : Nat) (xs : List Value) h => by
        have := heard_any key N q (pairsB ns tr (l.take x)) b Rb b.length cb (nmAt ns kn) (tr kn) w w' X xn xc xs HT.out h v4 v3 (by omega) w2 hpb
        rw [v5] at this
        exact this)
       have HNx0 := Lib.hid (fun (a' b' : List NoteN) (h1 : heardB N a (nmAt ns x) (tr x) = some a') (h2 : heardB N b (nmAt ns kn) (tr kn) = some b') => show BookInv N ns tr l i (x + 1) a' b' from
        HW.out.next hjl h1 (by rw [← HKK.out]; exact h2) (fun y hy => by rw [← HKK.out]; exact HNo.out y hy) (by rw [← HKK.out]; omega))
       clear w1 w2 w3 w4 hjl hjn hkl hjb hkb e1 e2 hpb v3 v4 v5 v6 hk0 hkn HW HKK HNo
       generalize nmAt ns x = s1 at HC HA1 HNx0
       generalize nmAt ns kn = s2 at HC2 HA2 HNx0
       generalize tr x = t1 at HBc HA1 HNx0
       generalize tr kn = t2 at HBc2 HA2 HNx0
       generalize heardB N a s1 t1 = r1 at HA1 HNx0
       generalize heardB N b s2 t2 = r2 at HA2 HNx0
       cases r1 with
       | none =>
        cases r2 with
        | none =>
         unfold HeardEnd at HA1 HA2
         dsimp only at HA1 HA2
         refine wp_region_idxT [(0, 0), (1, 0), (2, 0), (3, 0), (4, 0), (5, 0), (6, 0), (7, 0), (8, 0), (9, 0), (10, 0), (11, 1), (12, 0), (13, 0), (14, 0), (15, 2), (16, 2)] (by kernel_rfl) (by kernel_rfl) ?_
         replace hst := hst.drew
         refine idx_q rfl rfl ?_; go_wp2_with fail
         refine idx_q rfl rfl ?_; go_wp2_with fail
         refine idx_q rfl rfl ?_; go_wp2_with fail
         refine idx_q rfl rfl ?_; go_wp2_with fail
         refine idx_q rfl rfl ?_; go_wp2_with ((refine L_idxS (d := some 106) rfl rfl rfl (by rfl) (by rfl) Tryd.underlying23 el_api_Note (by (exact hst.old (by decide) HX.out)) (by omega) (by omega) ?_; intro o106 p106 ha106 hr106; ((subst ha106))))
         refine idx_qf rfl rfl (by kernel_rfl) ?_; go_wp2_with fail
         refine idx_q rfl rfl ?_; go_wp2_with ((refine L_load1 (d := some 108) rfl rfl rfl (by rfl) Tryd.underlying9 rfl (HC.out _ _ _ hr106) ?_))
         refine idx_q rfl rfl ?_; go_wp2_with fail
         refine idx_q rfl rfl ?_; go_wp2_with fail
         refine idx_q rfl rfl ?_; go_wp2_with ((refine L_idxS (d := some 111) rfl rfl rfl (by rfl) (by rfl) Tryd.underlying54 el_bool (by (exact hst.old (by decide) HB.out)) (by omega) (by omega) ?_; intro o111 p111 ha111 hr111; ((subst ha111))))
         refine idx_q rfl rfl ?_; go_wp2_with ((refine L_load1 (d := some 112) rfl rfl rfl (by rfl) Tryd.underlying4 rfl (HBc.out _ _ _ hr111) ?_))
         refine idx_e rfl ?_; go_wp2_with ((go_at_call 34; (try clear hnew); refine (HA1.out _ hst).mono ?_; unfold errV; rintro e Wh1 ⟨r1, hr1, rfl, hst'⟩; clear hst; have hst := hst'; clear hst'))
         refine idx_q rfl rfl ?_; go_wp2_with fail
         refine idx_q rfl rfl ?_; go_wp2_with fail
         refine idx_q rfl rfl ?_; go_wp2_with fail
         refine idx_g rfl ?_; go_wp2_with fail; refine ⟨by (exact Below.refl _ _), ?_⟩
         refine idx_g rfl ?_; go_wp2_with fail; refine ⟨by (exact Below.refl _ _), ?_⟩
         refine idx_nil ?_
         replace hst := hst.ends
         go_upto_region 25 with fail
         refine wp_region_idxT [(0, 0), (1, 0), (2, 0), (3, 0), (4, 0), (5, 0), (6, 0), (7, 0), (8, 0), (9, 0), (10, 0), (11, 1), (12, 0), (13, 0), (14, 0), (15, 2), (16, 2)] (by kernel_rfl) (by kernel_rfl) ?_
         replace hst := hst.drew
         refine idx_q rfl rfl ?_; go_wp2_with fail
         refine idx_q rfl rfl ?_; go_wp2_with fail
         refine idx_q rfl rfl ?_; go_wp2_with fail
         refine idx_q rfl rfl ?_; go_wp2_with fail
         refine idx_q rfl rfl ?_; go_wp2_with ((refine L_idxS (d := some 121) rfl rfl rfl (by rfl) (by rfl) Tryd.underlying23 el_api_Note (by (exact hst.old (by decide) HX.out)) (by omega) (by omega) ?_; intro o121 p121 ha121 hr121; ((obtain ⟨h1, h2⟩ := some_addr ha121; subst h1; subst h2; clear ha121))))
         refine idx_qf rfl rfl (by kernel_rfl) ?_; go_wp2_with fail
         refine idx_q rfl rfl ?_; go_wp2_with ((refine L_load1 (d := some 123) rfl rfl rfl (by rfl) Tryd.underlying9 rfl (HC2.out _ _ _ hr121) ?_))
         refine idx_q rfl rfl ?_; go_wp2_with fail
         refine idx_q rfl rfl ?_; go_wp2_with fail
         refine idx_q rfl rfl ?_; go_wp2_with ((refine L_idxS (d := some 126) rfl rfl rfl (by rfl) (by rfl) Tryd.underlying54 el_bool (by (exact hst.old (by decide) HB.out)) (by omega) (by omega) ?_; intro o126 p126 ha126 hr126; ((obtain ⟨h1, h2⟩ := some_addr ha126; subst h1; subst h2; clear ha126))))
         refine idx_q rfl rfl ?_; go_wp2_with ((refine L_load1 (d := some 127) rfl rfl rfl (by rfl) Tryd.underlying4 rfl (HBc2.out _ _ _ hr126) ?_))
         refine idx_e rfl ?_; go_wp2_with ((go_at_call 34; (try clear hnew); refine (HA2.out _ _ _ _ _ hst).mono ?_; unfold errV; rintro e Wh2 ⟨r2, hr2, rfl, hst'⟩; clear hst; have hst := hst'; clear hst'))
         refine idx_q rfl rfl ?_; go_wp2_with fail
         refine idx_q rfl rfl ?_; go_wp2_with fail
         refine idx_q rfl rfl ?_; go_wp2_with fail
         refine idx_g rfl ?_; go_wp2_with fail; refine ⟨by (exact Below.refl _ _), ?_⟩
         refine idx_g rfl ?_; go_wp2_with fail; refine ⟨by (exact Below.refl _ _), ?_⟩
         refine idx_nil ?_
         replace hst := hst.ends
         go_upto_region 26 with fail
         go_upto_region 27 with (first | (with_reducible refine L_pass (t := 134) rfl (by kernel_rfl) ?_) | (with_reducible refine L_pass (t := 135) rfl (by kernel_rfl) ?_))
         go_wp2_with (fail)
         go_ret
         exact ⟨rfl, hst.forget⟩
        | some b' =>
         unfold HeardEnd at HA1 HA2
         dsimp only at HA1 HA2
         refine wp_region_idxT [(0, 0), (1, 0), (2, 0), (3, 0), (4, 0), (5, 0), (6, 0), (7, 0), (8, 0), (9, 0), (10, 0), (11, 1), (12, 0), (13, 0), (14, 0), (15, 2), (16, 2)] (by kernel_rfl) (by kernel_rfl) ?_
         replace hst := hst.drew
         refine idx_q rfl rfl ?_; go_wp2_with fail
         refine idx_q rfl rfl ?_; go_wp2_with fail
         refine idx_q rfl rfl ?_; go_wp2_with fail
         refine idx_q rfl rfl ?_; go_wp2_with fail
         refine idx_q rfl rfl ?_; go_wp2_with ((refine L_idxS (d := some 106) rfl rfl rfl (by rfl) (by rfl) Tryd.underlying23 el_api_Note (by (exact hst.old (by decide) HX.out)) (by omega) (by omega) ?_; intro o106 p106 ha106 hr106; ((subst ha106))))
         refine idx_qf rfl rfl (by kernel_rfl) ?_; go_wp2_with fail
         refine idx_q rfl rfl ?_; go_wp2_with ((refine L_load1 (d := some 108) rfl rfl rfl (by rfl) Tryd.underlying9 rfl (HC.out _ _ _ hr106) ?_))
         refine idx_q rfl rfl ?_; go_wp2_with fail
         refine idx_q rfl rfl ?_; go_wp2_with fail
         refine idx_q rfl rfl ?_; go_wp2_with ((refine L_idxS (d := some 111) rfl rfl rfl (by rfl) (by rfl) Tryd.underlying54 el_bool (by (exact hst.old (by decide) HB.out)) (by omega) (by omega) ?_; intro o111 p111 ha111 hr111; ((subst ha111))))
         refine idx_q rfl rfl ?_; go_wp2_with ((refine L_load1 (d := some 112) rfl rfl rfl (by rfl) Tryd.underlying4 rfl (HBc.out _ _ _ hr111) ?_))
         refine idx_e rfl ?_; go_wp2_with ((go_at_call 34; (try clear hnew); refine (HA1.out _ hst).mono ?_; unfold errV; rintro e Wh1 ⟨r1, hr1, rfl, hst'⟩; clear hst; have hst := hst'; clear hst'))
         refine idx_q rfl rfl ?_; go_wp2_with fail
         refine idx_q rfl rfl ?_; go_wp2_with fail
         refine idx_q rfl rfl ?_; go_wp2_with fail
         refine idx_g rfl ?_; go_wp2_with fail; refine ⟨by (exact Below.refl _ _), ?_⟩
         refine idx_g rfl ?_; go_wp2_with fail; refine ⟨by (exact Below.refl _ _), ?_⟩
         refine idx_nil ?_
         replace hst := hst.ends
         go_upto_region 25 with fail
         refine wp_region_idxT [(0, 0), (1, 0), (2, 0), (3, 0), (4, 0), (5, 0), (6, 0), (7, 0), (8, 0), (9, 0), (10, 0), (11, 1), (12, 0), (13, 0), (14, 0), (15, 2), (16, 2)] (by kernel_rfl) (by kernel_rfl) ?_
         replace hst := hst.drew
         refine idx_q rfl rfl ?_; go_wp2_with fail
         refine idx_q rfl rfl ?_; go_wp2_with fail
         refine idx_q rfl rfl ?_; go_wp2_with fail
         refine idx_q rfl rfl ?_; go_wp2_with fail
         refine idx_q rfl rfl ?_; go_wp2_with ((refine L_idxS (d := some 121) rfl rfl rfl (by rfl) (by rfl) Tryd.underlying23 el_api_Note (by (exact hst.old (by decide) HX.out)) (by omega) (by omega) ?_; intro o121 p121 ha121 hr121; ((obtain ⟨h1, h2⟩ := some_addr ha121; subst h1; subst h2; clear ha121))))
         refine idx_qf rfl rfl (by kernel_rfl) ?_; go_wp2_with fail
         refine idx_q rfl rfl ?_; go_wp2_with ((refine L_load1 (d := some 123) rfl rfl rfl (by rfl) Tryd.underlying9 rfl (HC2.out _ _ _ hr121) ?_))
         refine idx_q rfl rfl ?_; go_wp2_with fail
         refine idx_q rfl rfl ?_; go_wp2_with fail
         refine idx_q rfl rfl ?_; go_wp2_with ((refine L_idxS (d := some 126) rfl rfl rfl (by rfl) (by rfl) Tryd.underlying54 el_bool (by (exact hst.old (by decide) HB.out)) (by omega) (by omega) ?_; intro o126 p126 ha126 hr126; ((obtain ⟨h1, h2⟩ := some_addr ha126; subst h1; subst h2; clear ha126))))
         refine idx_q rfl rfl ?_; go_wp2_with ((refine L_load1 (d := some 127) rfl rfl rfl (by rfl) Tryd.underlying4 rfl (HBc2.out _ _ _ hr126) ?_))
         refine idx_e rfl ?_; go_wp2_with ((go_at_call 34; (try clear hnew); refine (HA2.out _ _ _ _ _ hst).mono ?_; rintro e Wh2 ⟨O2, oc2, rfl, hst'⟩; clear hst; have hst := hst'; clear hst'))
         refine idx_q rfl rfl ?_; go_wp2_with fail
         refine idx_q rfl rfl ?_; go_wp2_with fail
         refine idx_q rfl rfl ?_; go_wp2_with fail
         refine idx_g rfl ?_; go_wp2_with fail; refine ⟨by (exact Below.refl _ _), ?_⟩
         refine idx_g rfl ?_; go_wp2_with fail; refine ⟨by (exact Below.refl _ _), ?_⟩
         refine idx_nil ?_
         replace hst := hst.ends
         go_upto_region 26 with fail
         go_upto_region 27 with (first | (with_reducible refine L_pass (t := 134) rfl (by kernel_rfl) ?_) | (with_reducible refine L_pass (t := 135) rfl (by kernel_rfl) ?_))
         go_wp2_with (fail)
         go_ret
         exact ⟨rfl, hst.forget⟩
       | some a' =>
        cases r2 with
        | none =>
         unfold HeardEnd at HA1 HA2
         dsimp only at HA1 HA2
         refine wp_region_idxT [(0, 0), (1, 0), (2, 0), (3, 0), (4, 0), (5, 0), (6, 0), (7, 0), (8, 0), (9, 0), (10, 0), (11, 1), (12, 0), (13, 0), (14, 0), (15, 2), (16, 2)] (by kernel_rfl) (by kernel_rfl) ?_
         replace hst := hst.drew
         refine idx_q rfl rfl ?_; go_wp2_with fail
         refine idx_q rfl rfl ?_; go_wp2_with fail
         refine idx_q rfl rfl ?_; go_wp2_with fail
         refine idx_q rfl rfl ?_; go_wp2_with fail
         refine idx_q rfl rfl ?_; go_wp2_with ((refine L_idxS (d := some 106) rfl rfl rfl (by rfl) (by rfl) Tryd.underlying23 el_api_Note (by (exact hst.old (by decide) HX.out)) (by omega) (by omega) ?_; intro o106 p106 ha106 hr106; ((subst ha106))))
         refine idx_qf rfl rfl (by kernel_rfl) ?_; go_wp2_with fail
         refine idx_q rfl rfl ?_; go_wp2_with ((refine L_load1 (d := some 108) rfl rfl rfl (by rfl) Tryd.underlying9 rfl (HC.out _ _ _ hr106) ?_))
         refine idx_q rfl rfl ?_; go_wp2_with fail
         refine idx_q rfl rfl ?_; go_wp2_with fail
         refine idx_q rfl rfl ?_; go_wp2_with ((refine L_idxS (d := some 111) rfl rfl rfl (by rfl) (by rfl) Tryd.underlying54 el_bool (by (exact hst.old (by decide) HB.out)) (by omega) (by omega) ?_; intro o111 p111 ha111 hr111; ((subst ha111))))
         refine idx_q rfl rfl ?_; go_wp2_with ((refine L_load1 (d := some 112) rfl rfl rfl (by rfl) Tryd.underlying4 rfl (HBc.out _ _ _ hr111) ?_))
         refine idx_e rfl ?_; go_wp2_with ((go_at_call 34; (try clear hnew); refine (HA1.out _ hst).mono ?_; rintro e Wh1 ⟨O1, oc1, rfl, hst'⟩; clear hst; have hst := hst'; clear hst'))
         refine idx_q rfl rfl ?_; go_wp2_with fail
         refine idx_q rfl rfl ?_; go_wp2_with fail
         refine idx_q rfl rfl ?_; go_wp2_with fail
         refine idx_g rfl ?_; go_wp2_with fail; refine ⟨by (exact Below.refl _ _), ?_⟩
         refine idx_g rfl ?_; go_wp2_with fail; refine ⟨by (exact Below.refl _ _), ?_⟩
         refine idx_nil ?_
         replace hst := hst.ends
         go_upto_region 25 with fail
         refine wp_region_idxT [(0, 0), (1, 0), (2, 0), (3, 0), (4, 0), (5, 0), (6, 0), (7, 0), (8, 0), (9, 0), (10, 0), (11, 1), (12, 0), (13, 0), (14, 0), (15, 2), (16, 2)] (by kernel_rfl) (by kernel_rfl) ?_
         replace hst := hst.drew
         refine idx_q rfl rfl ?_; go_wp2_with fail
         refine idx_q rfl rfl ?_; go_wp2_with fail
         refine idx_q rfl rfl ?_; go_wp2_with fail
         refine idx_q rfl rfl ?_; go_wp2_with fail
         refine idx_q rfl rfl ?_; go_wp2_with ((refine L_idxS (d := some 121) rfl rfl rfl (by rfl) (by rfl) Tryd.underlying23 el_api_Note (by (exact hst.old (by decide) HX.out)) (by omega) (by omega) ?_; intro o121 p121 ha121 hr121; ((obtain ⟨h1, h2⟩ := some_addr ha121; subst h1; subst h2; clear ha121))))
         refine idx_qf rfl rfl (by kernel_rfl) ?_; go_wp2_with fail
         refine idx_q rfl rfl ?_; go_wp2_with ((refine L_load1 (d := some 123) rfl rfl rfl (by rfl) Tryd.underlying9 rfl (HC2.out _ _ _ hr121) ?_))
         refine idx_q rfl rfl ?_; go_wp2_with fail
         refine idx_q rfl rfl ?_; go_wp2_with fail
         refine idx_q rfl rfl ?_; go_wp2_with ((refine L_idxS (d := some 126) rfl rfl rfl (by rfl) (by rfl) Tryd.underlying54 el_bool (by (exact hst.old (by decide) HB.out)) (by omega) (by omega) ?_; intro o126 p126 ha126 hr126; ((obtain ⟨h1, h2⟩ := some_addr ha126; subst h1; subst h2; clear ha126))))
         refine idx_q rfl rfl ?_; go_wp2_with ((refine L_load1 (d := some 127) rfl rfl rfl (by rfl) Tryd.underlying4 rfl (HBc2.out _ _ _ hr126) ?_))
         refine idx_e rfl ?_; go_wp2_with ((go_at_call 34; (try clear hnew); refine (HA2.out _ _ _ _ _ hst).mono ?_; unfold errV; rintro e Wh2 ⟨r2, hr2, rfl, hst'⟩; clear hst; have hst := hst'; clear hst'))
         refine idx_q rfl rfl ?_; go_wp2_with fail
         refine idx_q rfl rfl ?_; go_wp2_with fail
         refine idx_q rfl rfl ?_; go_wp2_with fail
         refine idx_g rfl ?_; go_wp2_with fail; refine ⟨by (exact Below.refl _ _), ?_⟩
         refine idx_g rfl ?_; go_wp2_with fail; refine ⟨by (exact Below.refl _ _), ?_⟩
         refine idx_nil ?_
         replace hst := hst.ends
         go_upto_region 26 with fail
         go_upto_region 27 with (go_big_may; fail)
         go_wp2_with (fail)
         go_ret
         exact ⟨rfl, hst.forget⟩
        | some b' =>
         unfold HeardEnd at HA1 HA2
         dsimp only at HA1 HA2
         have HNx := Lib.hid (HNx0.out a' b' rfl rfl)
         refine wp_region_idxT [(0, 0), (1, 0), (2, 0), (3, 0), (4, 0), (5, 0), (6, 0), (7, 0), (8, 0), (9, 0), (10, 0), (11, 1), (12, 0), (13, 0), (14, 0), (15, 2), (16, 2)] (by kernel_rfl) (by kernel_rfl) ?_
         replace hst := hst.drew
         refine idx_q rfl rfl ?_; go_wp2_with fail
         refine idx_q rfl rfl ?_; go_wp2_with fail
         refine idx_q rfl rfl ?_; go_wp2_with fail
         refine idx_q rfl rfl ?_; go_wp2_with fail
         refine idx_q rfl rfl ?_; go_wp2_with ((refine L_idxS (d := some 106) rfl rfl rfl (by rfl) (by rfl) Tryd.underlying23 el_api_Note (by (exact hst.old (by decide) HX.out)) (by omega) (by omega) ?_; intro o106 p106 ha106 hr106; ((subst ha106))))
         refine idx_qf rfl rfl (by kernel_rfl) ?_; go_wp2_with fail
         refine idx_q rfl rfl ?_; go_wp2_with ((refine L_load1 (d := some 108) rfl rfl rfl (by rfl) Tryd.underlying9 rfl (HC.out _ _ _ hr106) ?_))
         refine idx_q rfl rfl ?_; go_wp2_with fail
         refine idx_q rfl rfl ?_; go_wp2_with fail
         refine idx_q rfl rfl ?_; go_wp2_with ((refine L_idxS (d := some 111) rfl rfl rfl (by rfl) (by rfl) Tryd.underlying54 el_bool (by (exact hst.old (by decide) HB.out)) (by omega) (by omega) ?_; intro o111 p111 ha111 hr111; ((subst ha111))))
         refine idx_q rfl rfl ?_; go_wp2_with ((refine L_load1 (d := some 112) rfl rfl rfl (by rfl) Tryd.underlying4 rfl (HBc.out _ _ _ hr111) ?_))
         refine idx_e rfl ?_; go_wp2_with ((go_at_call 34; (try clear hnew); refine (HA1.out _ hst).mono ?_; rintro e Wh1 ⟨O1, oc1, rfl, hst'⟩; clear hst; have hst := hst'; clear hst'))
         refine idx_q rfl rfl ?_; go_wp2_with fail
         refine idx_q rfl rfl ?_; go_wp2_with fail
         refine idx_q rfl rfl ?_; go_wp2_with fail
         refine idx_g rfl ?_; go_wp2_with fail; refine ⟨by (exact Below.refl _ _), ?_⟩
         refine idx_g rfl ?_; go_wp2_with fail; refine ⟨by (exact Below.refl _ _), ?_⟩
         refine idx_nil ?_
         replace hst := hst.ends
         go_upto_region 25 with fail
         refine wp_region_idxT [(0, 0), (1, 0), (2, 0), (3, 0), (4, 0), (5, 0), (6, 0), (7, 0), (8, 0), (9, 0), (10, 0), (11, 1), (12, 0), (13, 0), (14, 0), (15, 2), (16, 2)] (by kernel_rfl) (by kernel_rfl) ?_
         replace hst := hst.drew
         refine idx_q rfl rfl ?_; go_wp2_with fail
         refine idx_q rfl rfl ?_; go_wp2_with fail
         refine idx_q rfl rfl ?_; go_wp2_with fail
         refine idx_q rfl rfl ?_; go_wp2_with fail
         refine idx_q rfl rfl ?_; go_wp2_with ((refine L_idxS (d := some 121) rfl rfl rfl (by rfl) (by rfl) Tryd.underlying23 el_api_Note (by (exact hst.old (by decide) HX.out)) (by omega) (by omega) ?_; intro o121 p121 ha121 hr121; ((obtain ⟨h1, h2⟩ := some_addr ha121; subst h1; subst h2; clear ha121))))
         refine idx_qf rfl rfl (by kernel_rfl) ?_; go_wp2_with fail
         refine idx_q rfl rfl ?_; go_wp2_with ((refine L_load1 (d := some 123) rfl rfl rfl (by rfl) Tryd.underlying9 rfl (HC2.out _ _ _ hr121) ?_))
         refine idx_q rfl rfl ?_; go_wp2_with fail
         refine idx_q rfl rfl ?_; go_wp2_with fail
         refine idx_q rfl rfl ?_; go_wp2_with ((refine L_idxS (d := some 126) rfl rfl rfl (by rfl) (by rfl) Tryd.underlying54 el_bool (by (exact hst.old (by decide) HB.out)) (by omega) (by omega) ?_; intro o126 p126 ha126 hr126; ((obtain ⟨h1, h2⟩ := some_addr ha126; subst h1; subst h2; clear ha126))))
         refine idx_q rfl rfl ?_; go_wp2_with ((refine L_load1 (d := some 127) rfl rfl rfl (by rfl) Tryd.underlying4 rfl (HBc2.out _ _ _ hr126) ?_))
         refine idx_e rfl ?_; go_wp2_with ((go_at_call 34; (try clear hnew); refine (HA2.out _ _ _ _ _ hst).mono ?_; rintro e Wh2 ⟨O2, oc2, rfl, hst'⟩; clear hst; have hst := hst'; clear hst'))
         refine idx_q rfl rfl ?_; go_wp2_with fail
         refine idx_q rfl rfl ?_; go_wp2_with fail
         refine idx_q rfl rfl ?_; go_wp2_with fail
         refine idx_g rfl ?_; go_wp2_with fail; refine ⟨by (exact Below.refl _ _), ?_⟩
         refine idx_g rfl ?_; go_wp2_with fail; refine ⟨by (exact Below.refl _ _), ?_⟩
         refine idx_nil ?_
         replace hst := hst.ends
         go_upto_region 26 with fail
         go_upto_region 28 with (go_big_may; fail)
         go_upto_region 29 with (go_big_may; fail)
         go_upto_region 15 with (go_big_may; fail)
         go_wp2_with (fail)
         go_roundg g
         case measure => omega
         case rel => exact ⟨x + 1, a', b', O1, oc1, O2, oc2, Lib.hid (by have := HJ.out; omega), HNx, rfl, rfl, by go_num, hst⟩
    ·obtain rfl : gk = 0 := by omega
     obtain rfl : j = i := by omega
     clear hj
     obtain ⟨w1, w2, w3, w4⟩ := HW.out
     have ht : l.take j = l := List.take_of_length_le (by rw [HLc.out]; exact Nat.le_refl _)
     rw [ht] at w2 w3 w4
     obtain rfl : a = b := w1.same w2 (pairs_all ns tr l j HLc.out w3 w4)
     have hlen := w1.len
     rw [length_pairsA] at hlen
     have HJo := Lib.hid (fun (w' : World) (X Y : Option Addr) (cx cy : Nat) (h1 : SlR w' X a.length cx 34 (notesL a)) (h2 : SlR w' Y a.length cy 34 (notesL a)) => by
      have := join_ok (K := keyK N) a a X a.length cx Y a.length cy w' h1 h2 w1.sort w1.sort w1.ok w1.ok (by omega)
      rw [merge_self] at this
      exact this)
     have HSb := Lib.hid (fun (w' : World) (X Y : Option Addr) (cx cy : Nat) (h1 : SlR w' X a.length cx 34 (notesL a)) (h2 : SlR w' Y a.length cy 34 (notesL a)) => sameBooks_any a X a.length cx Y cy w' h1 h2 (by omega))
     clear w1 w2 w3 w4 ht hlen v3 v4 v5 v6 HW
     generalize notesL a = ll at *
     generalize a.length = z at *
     simp only [lgL, List.cons_append, List.nil_append] at hst
     go_upto_region 30 with (go_big_may; fail)
     go_upto_region 31 with (go_big_may; (go_at_call 35; (try clear hnew); refine (HJo.out _ _ _ _ _ (hst.sl 0 rfl) (hst.sl 6 rfl)).mono ?_; rintro e Wj ⟨O1, oc1, rfl, hnew⟩; replace hst := hst.trans hnew; simp only [List.cons_append, List.nil_append] at hst))
     go_upto_region 32 with (go_big_may; (go_at_call 35; (try clear hnew); refine (HJo.out _ _ _ _ _ (hst.sl 7 rfl) (hst.sl 1 rfl)).mono ?_; rintro e Wk ⟨O2, oc2, rfl, hnew⟩; replace hst := hst.trans hnew; simp only [List.cons_append, List.nil_append] at hst))
     go_upto_region 33 with (go_big_may; (go_at_call 36; (try clear hnew); refine (HSb.out _ _ _ _ _ (hst.sl 2 rfl) (hst.sl 8 rfl)).mono ?_; rintro e Wk1 ⟨rfl, hnew⟩; replace hst := hst.keep hnew))
     go_upto_region 34 with (go_big_may; (go_at_call 36; (try clear hnew); refine (HSb.out _ _ _ _ _ (hst.sl 1 rfl) (hst.sl 2 rfl)).mono ?_; rintro e Wk2 ⟨rfl, hnew⟩; replace hst := hst.keep hnew))
     go_upto_region 35 with (go_big_may; (go_at_call 36; (try clear hnew); refine (HSb.out _ _ _ _ _ (hst.sl 0 rfl) (hst.sl 2 rfl)).mono ?_; rintro e Wk3 ⟨rfl, hnew⟩; replace hst := hst.keep hnew))
     go_wp2_with (fail)
     go_ret
     exact ⟨rfl, hst.forget⟩
end Go.Proofs.YtaebeemnipafbaaDoor

namespace Go.Proofs.YtaebeemnipafbaaDoor.topBook
open Go.ChangeShapes Go.WideShapes Go.ChangeAt Go.RowKit
theorem own : ownKnob Tryd.prog.godebug = none := by kernel_rfl
theorem laidOut : laidOutB Tryd.prog = true := by kernel_rfl
theorem cellsD : Tryd.prog.cellsOf 30 = 32 := by kernel_rfl
theorem cells8 : Tryd.prog.cellsOf 5 = 1 := by kernel_rfl
set_option maxHeartbeats 4000000 in
set_option maxRecDepth 100000 in
theorem contract (H : Type) (enc : TypeId × Value → H) (W : World) (base : Nat) (args : Array Value) (ds gs : List (DataW H)) (before : List MemPlace)
  (hval : ∀ (j : Nat) t v, Tryd.f8.params[j]? = some t → args[j]? = some v → Value.okWide Tryd.prog W .any base t v)
  (hW : DataW.Whole enc Tryd.prog Tryd.f8.params.toList Rows.topBookSpec.vars false W args.toList ds gs before) (hT : Tb W)
  (hz : (DataW.weightsEach Tryd.prog (Tryd.f8.params.toList ++ (OpenSpec.ofChange Rows.topBookSpec).bare.plain.varTypes Tryd.prog) (ds ++ gs)).all (· ≤ reachBytes) = true) :
  Calls Tryd.prog 8 args W fun e W' => ∃ v, e = .returned v ∧ Rows.topBookSpec.post enc Tryd.prog Tryd.f8 false true false false W args v W' := by
 have hW' := hW
 obtain ⟨p, q, hA0, hV, rfl, hfz, hnd⟩ := hW
 have hA : DataW.TrodAll enc Tryd.prog W 0 (fun _ => true) true Tryd.f8.params.toList args.toList ds p := hA0
 rw [Tryd.params8] at hA hval hz
 obtain ⟨v0, vs0, d0, ds0, p0, q0, hargs, rfl, rfl, h0, r0⟩ := trodAll_cons hA
 obtain ⟨v1, vs1, d1, ds1, p1, q1, rfl, rfl, rfl, h1, r1⟩ := trodAll_cons r0
 obtain ⟨v2, vs2, d2, ds2, p2, q2, rfl, rfl, rfl, h2, r2⟩ := trodAll_cons r1
 obtain ⟨v3, vs3, d3, ds3, p3, q3, rfl, rfl, rfl, h3, r3⟩ := trodAll_cons r2
 obtain ⟨rfl, rfl, rfl⟩ := trodAll_nil r3
 obtain rfl : args = #[v0, v1, v2, v3] := by cases args; simp_all
 obtain ⟨rfl, rfl⟩ := trodVars_none hV
 obtain ⟨A0, n0, c0, a0, rfl, hs0, hd0⟩ := open_bytesS Tryd.underlying22 Tryd.underlying5 cells8 (hval 0 _ v0 rfl rfl) h0
 have hn0 : n0 * 1 ≤ 140737488351232 := by
  rcases hd0 with ⟨_, h0⟩ | ⟨el, sp, rfl, hel⟩
  ·rw [h0]; decide
  ·have := sized_slice hz (j := 0) (e := 5) rfl rfl Tryd.underlying22
   rw [show Tryd.prog.bytesOf 5 = 1 from by kernel_rfl] at this
   have := reach_le this
   rw [← hel]
   omega
 obtain ⟨A1, n1, c1, a1, rfl, hs1, hw1, hd1⟩ := open_notesS Tryd.underlying23 Tryd.underlying35 Tryd.underlying9 rfl Tryd.underlying3 Tryd.underlying30 Tryd.underlying5 cells8 cellsD rfl rfl rfl (by kernel_rfl) (by kernel_rfl) (by kernel_rfl) (hval 1 _ v1 rfl rfl) h1
 obtain ⟨A2, n2, c2, a2, rfl, hs2⟩ := open_boolsS Tryd.underlying54 Tryd.underlying4 (by kernel_rfl) (hval 2 _ v2 rfl rfl) h2
 obtain ⟨A3, n3, c3, a3, rfl, hs3, hw3⟩ := open_intsS Tryd.underlying73 Tryd.underlying3 (by kernel_rfl) (hval 3 _ v3 rfl rfl) h3
 have lt0 : ∀ x ∈ p0, x.block < W.heap.size := by obtain ⟨m, hm⟩ := h0; exact DataW.trod_lt m _ _ _ hm
 have lt1 : ∀ x ∈ p1, x.block < W.heap.size := by obtain ⟨m, hm⟩ := h1; exact DataW.trod_lt m _ _ _ hm
 have lt2 : ∀ x ∈ p2, x.block < W.heap.size := by obtain ⟨m, hm⟩ := h2; exact DataW.trod_lt m _ _ _ hm
 have lt3 : ∀ x ∈ p3, x.block < W.heap.size := by obtain ⟨m, hm⟩ := h3; exact DataW.trod_lt m _ _ _ hm
 clear hA0
 refine (topBook_any W hT a0 A0 n0 c0 hs0 hn0 a1 A1 n1 c1 hs1 a2 A2 n2 c2 hs2 a3 A3 n3 c3 hs3 (fun q hq => wf64 (hw3 q hq))).mono fun e W' ⟨he, hst⟩ => ?_
 have bel := hst.below
 subst he
 exact ⟨_, rfl, _, _, _, [], _, [], hW', trodAll_mk1 (shut_bool Tryd.underlying4 _),
  (trodAll_cons_mk (Below.trod laidOut (by kernel_rfl) (of_decide_eq_true (by kernel_rfl)) h0 bel lt0) (trodAll_cons_mk (Below.trod laidOut (by kernel_rfl) (of_decide_eq_true (by kernel_rfl)) h1 bel lt1) (trodAll_cons_mk (Below.trod laidOut (by kernel_rfl) (of_decide_eq_true (by kernel_rfl)) h2 bel lt2) (trodAll_cons_mk (Below.trod laidOut (by kernel_rfl) (of_decide_eq_true (by kernel_rfl)) h3 bel lt3) trodAll_mk0)))), rfl, bel.frame _, fun h => by cases h⟩
noncomputable def laidWorld (os : Os) : World :=
 { World.holding Tryd.prog os ⟨#[], #[], []⟩ with heap := (World.holding Tryd.prog os ⟨#[], #[], []⟩).heap.modify 1 fun
   | .cells _ t frozen => .cells tblArr t frozen
   | o => o }
theorem laid_met (os : Os) : laidMet Tryd.prog Rows.topBookRow.laid ((laidWorld os).forCall (fun _ _ => 0) ⟨#[], #[.slice none 0 0, .slice none 0 0, .slice none 0 0, .slice none 0 0], []⟩).memory :=
 laidMet_of_run' 8 (by kernel_rfl) (by kernel_rfl)
theorem reads (os : Os) {H : Type} (enc : TypeId × Value → H) : ∃ places, DataW.whole enc Tryd.prog ((laidWorld os).forCall (fun _ _ => 0) ⟨#[], #[.slice none 0 0, .slice none 0 0, .slice none 0 0, .slice none 0 0], []⟩).memory Tryd.f8.params.toList Rows.topBookSpec.vars false (#[.slice none 0 0, .slice none 0 0, .slice none 0 0, .slice none 0 0] : Array Value).toList 8 = some ([.nil, .nil, .nil, .nil], [], places) :=
 ⟨[], by kernel_rfl⟩
set_option maxRecDepth 100000 in
theorem lifted (os : Os) (started : os.Started) (H : Type) (enc : TypeId × Value → H) (F : Stop.Interp) :
  ReturnsInHanded {} Tryd.checked os 8 .any ((OpenSpec.ofChange Rows.topBookSpec).preRow enc Tryd.prog Tryd.f8 Rows.topBookRow.domain false Rows.topBookRow.laid) (((OpenSpec.ofChange Rows.topBookSpec).at F).post enc Tryd.prog Tryd.f8 false true false false) := by
 obtain ⟨places, hx⟩ := reads os enc
 refine returnsInHanded_of_row (C := Tryd.checked) (s := (OpenSpec.ofChange Rows.topBookSpec)) own started (by kernel_rfl) Tryd.func8
  (witness_row_at (enc := enc) (C := Tryd.checked) false (laidWorld os) #[.slice none 0 0, .slice none 0 0, .slice none 0 0, .slice none 0 0] rfl (by kernel_rfl) (by kernel_rfl) (by kernel_rfl)
   (OpenSpec.preRow_of_cond 8 hx (by kernel_rfl) (fun k hk => by cases hk) (by kernel_rfl) (laid_met os))) ?_
 intro W base args ds gs before hval hW _ _ hz hL _ _
 exact contract H enc W base args ds gs before hval hW (tb_of hL) hz
theorem said : Rows.TopBookSaid :=
 OpenClaim.holds_of_cond 8 Tryd.f8 rfl rfl rfl rfl rfl rfl rfl ⟨rfl, rfl, rfl, rfl, rfl⟩ rfl rfl rfl rfl rfl (by kernel_rfl) Tryd.func8 (by kernel_rfl)
  (of_decide_eq_true (by kernel_rfl)) (by unfold Func.isWrapper; first | (rw [if_pos (by decide +kernel)]; kernel_rfl) | (rw [if_neg (by decide +kernel)]; exact ⟨rfl, rfl⟩))
  (fun os started H enc _ F => by rw [OpenClaim.pre_eq_preRow]; exact lifted os started H enc F)
theorem plain (f : FuncId) (fn : Func) (hf : Tryd.pinned.checked.prog.funcNamed "oathbook/oathbooktop.TopBook" = some f) (hfn : Tryd.pinned.checked.prog.funcs[f]? = some fn) :
  true = Tryd.pinned.checked.prog.looks [] ∧ ∀ (j : Nat) t, fn.params[j]? = some t → Tryd.pinned.checked.prog.wantsStandIn t = false := by
 obtain rfl : f = 8 := Option.some.inj ((show Tryd.prog.funcNamed "oathbook/oathbooktop.TopBook" = some 8 by kernel_rfl).symm.trans hf) |>.symm
 obtain rfl : fn = Tryd.f8 := (Option.some.inj (Tryd.func8.symm.trans hfn)).symm
 refine ⟨by kernel_rfl, fun j t ht => ?_⟩
 rw [Tryd.params8] at ht
 have hm := Array.mem_of_getElem? ht
 have ha : ∀ t ∈ #[22, 23, 54, 73], Tryd.prog.wantsStandIn t = false := by
  intro t ht
  simp only [List.mem_toArray, List.mem_cons, List.not_mem_nil, or_false] at ht
  rcases ht with rfl | rfl | rfl | rfl <;> kernel_rfl
 exact ha t hm
theorem proved : Rows.TopBookCardSaid :=
 Claim7.holds_tied_plain_at .later [] _ _ _ _ said (fun _ h => by cases h) (by kernel_rfl) (fun _ h => by cases h) topBook_row_tie rfl ⟨rfl, rfl⟩ (by kernel_rfl) rfl plain (by kernel_rfl)
#print axioms proved
end Go.Proofs.YtaebeemnipafbaaDoor.topBook
