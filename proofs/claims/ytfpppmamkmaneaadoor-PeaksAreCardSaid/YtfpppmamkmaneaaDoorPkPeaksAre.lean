/-
  Proved here: PeaksAre: the law returns true for every input, and leaves its arguments as they were.
-/
import Derived.Test.YtfpppmamkmaneaaDoorTreePlain
import Derived.Lib.TrailingZeros
import Derived.Test.YtfpppmamkmaneaaDoorLawF
import Derived.Shelf.Spec.TrailingZeros
import Derived.Laws.Bits64b
import Derived.Laws.Bits128
import Derived.Test.YtfpppmamkmaneaaDoorRefOf
import Derived.Test.YtfpppmamkmaneaaDoorDrawT
import Derived.Test.YtfpppmamkmaneaaDoorLawC
import Derived.Test.YtfpppmamkmaneaaDoorRefSum
import Derived.Test.YtfpppmamkmaneaaDoorDigsL
import Derived.Test.YtfpppmamkmaneaaDoorPath
import Derived.Test.YtfpppmamkmaneaaDoorFork
import Derived.Test.YtfpppmamkmaneaaDoorPick
import Derived.RangeFuncNested
import Derived.RangeFuncCalls
import Derived.RangeFuncWrites
import Derived.OrdersIn
import Derived.RangeFuncBound
import Derived.RangeFuncLeaves
import Derived.Shelf.Abstract
import Derived.Shelf.RegionOpen
import Derived.OwnWalkIn
import Derived.TacticsInMore
import Derived.LoopNIn
import Derived.LoopIn
import Derived.Test.YtfpppmamkmaneaaDoorTree
import Derived.Test.YtfpppmamkmaneaaDoorFacts
import Derived.Test.YtfpppmamkmaneaaDoorOpenB
import Derived.Test.YtfpppmamkmaneaaDoorRows
import Derived.LaidLaws
import Derived.Lib.LaidTab
import Derived.ChangeVars
import Derived.JoinedOf
import Derived.RowKit
import Derived.Stop.Joined
import Derived.Stop.LaidErr
import Derived.Test.YtfpppmamkmaneaaDoorCards
import Derived.Test.YtfpppmamkmaneaaDoorTie
import Derived.Deep.DeepHandedRow
import Derived.ProofKit
import Derived.OpenShut
set_option maxRecDepth 20000
set_option linter.unusedSimpArgs false
set_option linter.unusedVariables false
namespace Go.Proofs.YtfpppmamkmaneaaDoor
def onesN (n : Nat) : Nat := if _h : n = 0 then 0 else n % 2 + onesN (n / 2)
termination_by n
theorem onesN_zero : onesN 0 = 0 := by rw [onesN]; rfl
theorem onesN_pos {n : Nat} (h : n ≠ 0) : onesN n = n % 2 + onesN (n / 2) := by rw [onesN, dif_neg h]
theorem onesN_odd {n : Nat} (h : n % 2 = 1) : onesN n = onesN (n / 2) + 1 := by rw [onesN_pos (by omega), h, Nat.add_comm]
theorem onesN_even {n : Nat} (h : n % 2 = 0) : onesN n = onesN (n / 2) := by
 by_cases h0 : n = 0
 ·subst h0; rfl
 ·rw [onesN_pos h0, h, Nat.zero_add]
theorem onesN_pow : ∀ (j m : Nat), m < 2 ^ j → onesN (2 ^ j + m) = onesN m + 1 := by
 intro j
 induction j with
 | zero =>
  intro m hm
  obtain rfl : m = 0 := by simpa using hm
  rw [onesN_odd (by decide)]
 | succ j ih =>
  intro m hm
  rw [Nat.pow_succ] at hm
  have h1 := ih (m / 2) (by omega)
  have h2 : (2 ^ (j + 1) + m) / 2 = 2 ^ j + m / 2 := by rw [Nat.pow_succ]; omega
  by_cases hp : m % 2 = 1
  ·rw [onesN_odd (n := 2 ^ (j + 1) + m) (by rw [Nat.pow_succ]; omega), h2, h1, onesN_odd hp]
  ·rw [onesN_even (n := 2 ^ (j + 1) + m) (by rw [Nat.pow_succ]; omega), h2, h1, onesN_even (n := m) (by omega)]
theorem onesN_le : ∀ (n : Nat), onesN n ≤ n := by
 intro n
 induction n using Nat.strongRecOn with
 | ind n ih =>
 by_cases h : n = 0
 ·subst h; rw [onesN_zero]; exact Nat.le_refl _
 ·rw [onesN_pos h]
  have := ih (n / 2) (by omega)
  omega
theorem onesN_bits : ∀ (k n : Nat), n < 2 ^ k → onesN n ≤ k := by
 intro k
 induction k with
 | zero =>
  intro n hn
  obtain rfl : n = 0 := by simpa using hn
  rw [onesN_zero]
  exact Nat.le_refl _
 | succ k ih =>
  intro n hn
  rw [Nat.pow_succ] at hn
  by_cases h : n = 0
  ·subst h; rw [onesN_zero]; exact Nat.zero_le _
  ·rw [onesN_pos h]
   have := ih (n / 2) (by omega)
   omega
def grownN (n : Nat) (ps : List Dig) (l : Dig) : List Dig := if _h : n % 2 = 1 then grownN (n / 2) ps.dropLast (nodeN (ps.getLastD zeroD) l) else ps ++ [l]
termination_by n
decreasing_by omega
theorem grownN_odd {n : Nat} (h : n % 2 = 1) (q : List Dig) (d l : Dig) : grownN n (q ++ [d]) l = grownN (n / 2) q (nodeN d l) := by
 rw [grownN, dif_pos h]
 simp
theorem grownN_even {n : Nat} (h : ¬ n % 2 = 1) (ps : List Dig) (l : Dig) : grownN n ps l = ps ++ [l] := by rw [grownN, dif_neg h]
def tonesN (n : Nat) : Nat := if _h : n % 2 = 1 then tonesN (n / 2) + 1 else 0
termination_by n
decreasing_by omega
theorem tonesN_odd {n : Nat} (h : n % 2 = 1) : tonesN n = tonesN (n / 2) + 1 := by rw [tonesN, dif_pos h]
theorem tonesN_even {n : Nat} (h : ¬ n % 2 = 1) : tonesN n = 0 := by rw [tonesN, dif_neg h]
theorem last_of {ps : List Dig} {k : Nat} (h : ps.length = k + 1) : ∃ q d, ps = q ++ [d] ∧ q.length = k := by
 refine ⟨ps.dropLast, ps.getLast (fun e => by rw [e] at h; simp at h), (List.dropLast_concat_getLast _).symm, ?_⟩
 rw [List.length_dropLast]
 omega
def bagN : List Dig → Dig
 | [] => sha []
 | [d] => d
 | d :: e :: r => nodeN d (bagN (e :: r))
theorem bagN_cons (d : Dig) {r : List Dig} (h : r ≠ []) : bagN (d :: r) = nodeN d (bagN r) := by
 cases r with
 | nil => exact absurd rfl h
 | cons e r => rfl
def topN (n : Nat) : Nat := 2 ^ Nat.log2 n
theorem topN_pos (n : Nat) : 0 < topN n := Nat.two_pow_pos _
theorem topN_le {n : Nat} (h : n ≠ 0) : topN n ≤ n := Nat.log2_self_le h
theorem topN_lt (n : Nat) : n < 2 * topN n := by
 have : n < 2 ^ (Nat.log2 n + 1) := Nat.lt_log2_self
 rw [Nat.pow_succ] at this
 unfold topN
 omega
theorem topN_of {k n : Nat} (j : Nat) (hj : k = 2 ^ j) (h1 : k ≤ n) (h2 : n < 2 * k) : topN n = k := by
 subst hj
 unfold topN
 have : Nat.log2 n = j := by
  have h3 : n ≠ 0 := by have := Nat.two_pow_pos j; omega
  rw [Nat.log2_eq_iff h3, Nat.pow_succ]
  omega
 rw [this]
def peaksN (ls : List Dig) : List Dig := if _h : ls.length = 0 then [] else rootN (ls.take (topN ls.length)) :: peaksN (ls.drop (topN ls.length))
termination_by ls.length
decreasing_by
 have := topN_pos ls.length
 rw [List.length_drop]
 omega
theorem peaksN_nil : peaksN [] = [] := by rw [peaksN]; rfl
theorem peaksN_of {ls : List Dig} (h : ls.length = 0) : peaksN ls = [] := by rw [peaksN, dif_pos h]
theorem peaksN_cons {ls : List Dig} (h : ls.length ≠ 0) : peaksN ls = rootN (ls.take (topN ls.length)) :: peaksN (ls.drop (topN ls.length)) := by rw [peaksN, dif_neg h]
theorem length_peaksN : ∀ (n : Nat) (ls : List Dig), ls.length = n → (peaksN ls).length = onesN n := by
 intro n
 induction n using Nat.strongRecOn with
 | ind n ih =>
 intro ls hl
 by_cases h : n = 0
 ·subst h
  rw [peaksN_of hl, onesN_zero]
  rfl
 ·have h1 := topN_pos n
  have h2 := topN_le h
  have h3 := topN_lt n
  rw [peaksN_cons (by omega), hl, List.length_cons, ih (n - topN n) (by omega) (ls.drop (topN n)) (by rw [List.length_drop, hl])]
  have := onesN_pow (Nat.log2 n) (n - topN n) (by show _ < topN n; omega)
  rw [show 2 ^ Nat.log2 n = topN n from rfl, show topN n + (n - topN n) = n by omega] at this
  exact this.symm
theorem bag_peaks : ∀ (n : Nat) (ls : List Dig), ls.length = n → bagN (peaksN ls) = rootN ls := by
 intro n
 induction n using Nat.strongRecOn with
 | ind n ih =>
 intro ls hl
 by_cases h : n = 0
 ·subst h
  obtain rfl : ls = [] := List.eq_nil_of_length_eq_zero hl
  rw [peaksN_nil, rootN_nil]
  rfl
 ·have h1 := topN_pos n
  have h2 := topN_le h
  have h3 := topN_lt n
  have hd : (ls.drop (topN n)).length = n - topN n := by rw [List.length_drop, hl]
  have hi := ih (n - topN n) (by omega) (ls.drop (topN n)) hd
  rw [peaksN_cons (by omega), hl]
  by_cases hk : n = topN n
  ·rw [peaksN_of (by omega), List.take_of_length_le (by omega)]
   rfl
  ·have hh : halfN n = topN n := halfN_of (Nat.log2 n) rfl (by omega) (by omega)
   have hne : peaksN (ls.drop (topN n)) ≠ [] := by rw [peaksN_cons (by omega)]; exact List.cons_ne_nil _ _
   rw [bagN_cons _ hne, hi, rootN_more ls (by omega), hl, hh]
theorem grown_cons : ∀ (j m : Nat) (ps : List Dig) (x l : Dig), m < 2 ^ j → ps.length = onesN m →
  (m + 1 < 2 ^ j → grownN (2 ^ j + m) (x :: ps) l = x :: grownN m ps l) ∧ (m + 1 = 2 ^ j → ∃ y, grownN m ps l = [y] ∧ grownN (2 ^ j + m) (x :: ps) l = [nodeN x y]) := by
 intro j
 induction j with
 | zero =>
  intro m ps x l hm hp
  obtain rfl : m = 0 := by simpa using hm
  rw [onesN_zero] at hp
  obtain rfl : ps = [] := List.eq_nil_of_length_eq_zero hp
  refine ⟨fun h => absurd h (by decide), fun _ => ⟨l, ?_, ?_⟩⟩
  ·rw [grownN_even (by decide)]
   rfl
  ·have := grownN_odd (n := 2 ^ 0 + 0) (by decide) [] x l
   rw [List.nil_append] at this
   rw [this, grownN_even (by decide)]
   rfl
 | succ j ih =>
  intro m ps x l hm hp
  have hpow : 2 ^ (j + 1) = 2 * 2 ^ j := by rw [Nat.pow_succ]; omega
  have h2 : (2 ^ (j + 1) + m) / 2 = 2 ^ j + m / 2 := by omega
  by_cases hodd : m % 2 = 1
  ·rw [onesN_odd hodd] at hp
   obtain ⟨q, d, rfl, hq⟩ := last_of hp
   have hi := ih (m / 2) q x (nodeN d l) (by omega) hq
   have e1 : grownN (2 ^ (j + 1) + m) (x :: (q ++ [d])) l = grownN (2 ^ j + m / 2) (x :: q) (nodeN d l) := by
    rw [← List.cons_append, grownN_odd (by omega), h2]
   rw [e1, grownN_odd hodd]
   exact ⟨fun h => hi.1 (by omega), fun h => hi.2 (by omega)⟩
  ·refine ⟨fun _ => ?_, fun h => by omega⟩
   rw [grownN_even (by omega), grownN_even hodd]
   rfl
theorem grown_peaks : ∀ (n : Nat) (ls : List Dig) (l : Dig), ls.length = n → grownN n (peaksN ls) l = peaksN (ls ++ [l]) := by
 intro n
 induction n using Nat.strongRecOn with
 | ind n ih =>
 intro ls l hl
 by_cases h : n = 0
 ·subst h
  obtain rfl : ls = [] := List.eq_nil_of_length_eq_zero hl
  rw [peaksN_nil, grownN_even (by decide), List.nil_append, peaksN_cons (by simp)]
  have : topN [l].length = 1 := topN_of 0 rfl (Nat.le_refl _) (by simp)
  rw [this]
  show [l] = rootN [l] :: peaksN []
  rw [rootN_one, peaksN_nil]
 ·have h1 := topN_pos n
  have h2 := topN_le h
  have h3 := topN_lt n
  have hd : (ls.drop (topN n)).length = n - topN n := by rw [List.length_drop, hl]
  have hi := ih (n - topN n) (by omega) (ls.drop (topN n)) l hd
  have hll : (ls ++ [l]).length = n + 1 := by rw [List.length_append, hl]; rfl
  have ht : (ls ++ [l]).take (topN n) = ls.take (topN n) := List.take_append_of_le_length (by omega)
  have hdr : (ls ++ [l]).drop (topN n) = ls.drop (topN n) ++ [l] := List.drop_append_of_le_length (by omega)
  have hg := grown_cons (Nat.log2 n) (n - topN n) (peaksN (ls.drop (topN n))) (rootN (ls.take (topN n))) l (by show _ < topN n; omega) (length_peaksN _ _ hd)
  rw [show 2 ^ Nat.log2 n = topN n from rfl, show topN n + (n - topN n) = n by omega, hi] at hg
  rw [peaksN_cons (ls := ls) (by omega), hl]
  by_cases hk : n - topN n + 1 < topN n
  ·have e : topN (n + 1) = topN n := topN_of (Nat.log2 n) rfl (by omega) (by omega)
   rw [hg.1 hk, peaksN_cons (ls := ls ++ [l]) (by omega), hll, e, ht, hdr]
  ·obtain ⟨y, hy, hgy⟩ := hg.2 (by omega)
   have e : topN (n + 1) = n + 1 := topN_of (Nat.log2 n + 1) (by rw [Nat.pow_succ]; show n + 1 = topN n * 2; omega) (Nat.le_refl _) (by omega)
   have hh : halfN (n + 1) = topN n := halfN_of (Nat.log2 n) rfl (by omega) (by omega)
   have e2 : (ls.drop (topN n) ++ [l]).length = topN n := by rw [List.length_append, hd, List.length_singleton]; omega
   have e3 : topN (topN n) = topN n := topN_of (Nat.log2 n) rfl (Nat.le_refl _) (by omega)
   rw [peaksN_cons (by omega), e2, e3, List.take_of_length_le (by omega)] at hy
   rw [hgy, peaksN_cons (ls := ls ++ [l]) (by omega), hll, e, List.take_of_length_le (l := ls ++ [l]) (by omega), peaksN_of (by rw [List.length_drop]; omega), rootN_more (ls ++ [l]) (by omega), hll, hh, ht, hdr]
   rw [(List.cons.inj hy).1]
end Go.Proofs.YtfpppmamkmaneaaDoor

set_option maxRecDepth 20000
set_option linter.unusedSimpArgs false
set_option linter.unusedVariables false
namespace Go.Proofs.YtfpppmamkmaneaaDoor
theorem onesN_all (n : Nat) : onesN n = n % 2 + onesN (n / 2) := by
 by_cases h : n = 0
 ·subst h; rw [onesN_zero]
 ·exact onesN_pos h
theorem onesN_split : ∀ (k b y : Nat), b < 2 ^ k → onesN (b + 2 ^ k * y) = onesN b + onesN y := by
 intro k
 induction k with
 | zero =>
  intro b y hb
  obtain rfl : b = 0 := by simpa using hb
  rw [onesN_zero, Nat.zero_add, Nat.zero_add, Nat.pow_zero, Nat.one_mul]
 | succ k ih =>
  intro b y hb
  obtain ⟨z, hz⟩ : ∃ z, z = 2 ^ k * y := ⟨_, rfl⟩
  have e : 2 ^ (k + 1) * y = 2 * z := by rw [hz, Nat.pow_succ, Nat.mul_comm (2 ^ k) 2, Nat.mul_assoc]
  rw [Nat.pow_succ] at hb
  have hi := ih (b / 2) y (by omega)
  rw [← hz] at hi
  rw [e, onesN_all (b + 2 * z), onesN_all b, show (b + 2 * z) % 2 = b % 2 by omega, show (b + 2 * z) / 2 = b / 2 + z by omega, hi, Nat.add_assoc]
theorem land_byte (b y c z : Nat) (hb : b < 256) (hc : c < 256) : (b + 256 * y) &&& (c + 256 * z) = (b &&& c) + 256 * (y &&& z) := by
 have h1 := Nat.and_mod_two_pow (a := b + 256 * y) (b := c + 256 * z) (n := 8)
 have h2 := Nat.and_div_two_pow (a := b + 256 * y) (b := c + 256 * z) (n := 8)
 rw [show (2 : Nat) ^ 8 = 256 by decide] at h1 h2
 rw [show (b + 256 * y) % 256 = b by omega, show (c + 256 * z) % 256 = c by omega] at h1
 rw [show (b + 256 * y) / 256 = y by omega, show (c + 256 * z) / 256 = z by omega] at h2
 rw [← h1, ← h2]
 omega
def o1 (b : Nat) : Nat := (b / 2 &&& 85) + (b &&& 85)
def o2 (b : Nat) : Nat := (b / 4 &&& 51) + (b &&& 51)
def o3 (b : Nat) : Nat := b / 16 + b % 16
theorem o1_top : ∀ (b : Fin 256) (c : Fin 2), (b.val / 2 + 128 * c.val) &&& 85 = b.val / 2 &&& 85 := by decide +kernel
theorem o2_top : ∀ (b : Fin 256) (c : Fin 4), (b.val / 4 + 64 * c.val) &&& 51 = b.val / 4 &&& 51 := by decide +kernel
theorem o1_lt : ∀ b : Fin 256, o1 b.val < 256 := by decide +kernel
theorem o2_lt : ∀ b : Fin 256, o2 (o1 b.val) % 16 ≤ 4 ∧ o2 (o1 b.val) / 16 ≤ 4 := by decide +kernel
def onesF : Nat → Nat → Nat
 | 0, _ => 0
 | f + 1, n => n % 2 + onesF f (n / 2)
theorem onesF_eq : ∀ (f n : Nat), n < 2 ^ f → onesF f n = onesN n
 | 0, n, h => by
  obtain rfl : n = 0 := by simpa using h
  rw [onesN_zero]
  rfl
 | f + 1, n, h => by
  rw [Nat.pow_succ] at h
  rw [onesN_all n, ← onesF_eq f (n / 2) (by omega)]
  rfl
theorem o3_is : ∀ b : Fin 256, o3 (o2 (o1 b.val)) = onesF 8 b.val := by decide +kernel
theorem o1_byte (b y z : Nat) (hb : b < 256) : ((b + 256 * y) / 2 &&& (85 + 256 * z)) + ((b + 256 * y) &&& (85 + 256 * z)) = o1 b + 256 * ((y / 2 &&& z) + (y &&& z)) := by
 have h := o1_top ⟨b, hb⟩ ⟨y % 2, by omega⟩
 simp only at h
 rw [show (b + 256 * y) / 2 = (b / 2 + 128 * (y % 2)) + 256 * (y / 2) by omega, land_byte _ _ _ _ (by omega) (by decide), land_byte _ _ _ _ hb (by decide), h]
 unfold o1
 omega
theorem o2_byte (b y z : Nat) (hb : b < 256) : ((b + 256 * y) / 4 &&& (51 + 256 * z)) + ((b + 256 * y) &&& (51 + 256 * z)) = o2 b + 256 * ((y / 4 &&& z) + (y &&& z)) := by
 have h := o2_top ⟨b, hb⟩ ⟨y % 4, by omega⟩
 simp only at h
 rw [show (b + 256 * y) / 4 = (b / 4 + 64 * (y % 4)) + 256 * (y / 4) by omega, land_byte _ _ _ _ (by omega) (by decide), land_byte _ _ _ _ hb (by decide), h]
 unfold o2
 omega
theorem o3_byte (b y z : Nat) (h1 : b % 16 ≤ 4) (h2 : b / 16 ≤ 4) (h3 : y % 16 ≤ 4) : ((b + 256 * y) / 16 + (b + 256 * y)) &&& (15 + 256 * z) = o3 b + 256 * ((y / 16 + y) &&& z) := by
 have h4 : (b / 16 + 16 * (y % 16) + b) &&& 15 = o3 b := by
  have := Nat.and_two_pow_sub_one_eq_mod (b / 16 + 16 * (y % 16) + b) 4
  rw [show (2 : Nat) ^ 4 - 1 = 15 by decide, show (2 : Nat) ^ 4 = 16 by decide] at this
  rw [this]
  unfold o3
  omega
 rw [show (b + 256 * y) / 16 + (b + 256 * y) = (b / 16 + 16 * (y % 16) + b) + 256 * (y / 16 + y) by omega, land_byte _ _ _ _ (by omega) (by decide), h4]
def swar1 (x : Nat) : Nat := (x / 2 &&& 6148914691236517205) + (x &&& 6148914691236517205)
def swar2 (x : Nat) : Nat := (x / 4 &&& 3689348814741910323) + (x &&& 3689348814741910323)
def swar3 (x : Nat) : Nat := (x / 16 + x) &&& 1085102592571150095
theorem swar_bytes (a b c d : Nat) (ha : a < 256) (hb : b < 256) (hc : c < 256) (hd : d < 256) :
  swar1 (a + 256 * (b + 256 * (c + 256 * d))) = o1 a + 256 * (o1 b + 256 * (o1 c + 256 * o1 d)) ∧
  swar2 (swar1 (a + 256 * (b + 256 * (c + 256 * d)))) = o2 (o1 a) + 256 * (o2 (o1 b) + 256 * (o2 (o1 c) + 256 * o2 (o1 d))) ∧
  swar3 (swar2 (swar1 (a + 256 * (b + 256 * (c + 256 * d))))) = onesN a + 256 * (onesN b + 256 * (onesN c + 256 * onesN d)) := by
 have h1 : ∀ a b c d : Nat, a < 256 → b < 256 → c < 256 → d < 256 → swar1 (a + 256 * (b + 256 * (c + 256 * d))) = o1 a + 256 * (o1 b + 256 * (o1 c + 256 * o1 d)) := fun a b c d ha hb hc hd => by
  have h0 := o1_byte d 0 (85 + 256 * (85 + 256 * (85 + 256 * 85))) hd
  rw [show ((0 : Nat) / 2 &&& (85 + 256 * (85 + 256 * (85 + 256 * 85)))) + (0 &&& (85 + 256 * (85 + 256 * (85 + 256 * 85)))) = 0 by decide, Nat.mul_zero, Nat.add_zero, Nat.add_zero] at h0
  unfold swar1
  rw [show (6148914691236517205 : Nat) = 85 + 256 * (85 + 256 * (85 + 256 * (85 + 256 * (85 + 256 * (85 + 256 * (85 + 256 * 85)))))) by decide, o1_byte a _ _ ha, o1_byte b _ _ hb, o1_byte c _ _ hc, h0, Nat.add_zero]
 have h2 : ∀ a b c d : Nat, a < 256 → b < 256 → c < 256 → d < 256 → swar2 (a + 256 * (b + 256 * (c + 256 * d))) = o2 a + 256 * (o2 b + 256 * (o2 c + 256 * o2 d)) := fun a b c d ha hb hc hd => by
  have h0 := o2_byte d 0 (51 + 256 * (51 + 256 * (51 + 256 * 51))) hd
  rw [show ((0 : Nat) / 4 &&& (51 + 256 * (51 + 256 * (51 + 256 * 51)))) + (0 &&& (51 + 256 * (51 + 256 * (51 + 256 * 51)))) = 0 by decide, Nat.mul_zero, Nat.add_zero, Nat.add_zero] at h0
  unfold swar2
  rw [show (3689348814741910323 : Nat) = 51 + 256 * (51 + 256 * (51 + 256 * (51 + 256 * (51 + 256 * (51 + 256 * (51 + 256 * 51)))))) by decide, o2_byte a _ _ ha, o2_byte b _ _ hb, o2_byte c _ _ hc, h0, Nat.add_zero]
 have ga := o2_lt ⟨a, ha⟩
 have gb := o2_lt ⟨b, hb⟩
 have gc := o2_lt ⟨c, hc⟩
 have gd := o2_lt ⟨d, hd⟩
 have pa := o3_is ⟨a, ha⟩
 have pb := o3_is ⟨b, hb⟩
 have pc := o3_is ⟨c, hc⟩
 have pd := o3_is ⟨d, hd⟩
 simp only at ga gb gc gd pa pb pc pd
 rw [onesF_eq 8 _ ha] at pa
 rw [onesF_eq 8 _ hb] at pb
 rw [onesF_eq 8 _ hc] at pc
 rw [onesF_eq 8 _ hd] at pd
 refine ⟨h1 a b c d ha hb hc hd, ?_, ?_⟩
 ·rw [h1 a b c d ha hb hc hd, h2 _ _ _ _ (o1_lt ⟨a, ha⟩) (o1_lt ⟨b, hb⟩) (o1_lt ⟨c, hc⟩) (o1_lt ⟨d, hd⟩)]
 ·rw [h1 a b c d ha hb hc hd, h2 _ _ _ _ (o1_lt ⟨a, ha⟩) (o1_lt ⟨b, hb⟩) (o1_lt ⟨c, hc⟩) (o1_lt ⟨d, hd⟩), ← pa, ← pb, ← pc, ← pd]
  generalize o2 (o1 a) = a at *
  generalize o2 (o1 b) = b at *
  generalize o2 (o1 c) = c at *
  generalize o2 (o1 d) = d at *
  have h0 := o3_byte d 0 (15 + 256 * (15 + 256 * (15 + 256 * 15))) gd.1 gd.2 (by decide)
  rw [show ((0 : Nat) / 16 + 0) &&& (15 + 256 * (15 + 256 * (15 + 256 * 15))) = 0 by decide, Nat.mul_zero, Nat.add_zero, Nat.add_zero] at h0
  unfold swar3
  rw [show (1085102592571150095 : Nat) = 15 + 256 * (15 + 256 * (15 + 256 * (15 + 256 * (15 + 256 * (15 + 256 * (15 + 256 * 15)))))) by decide,
   o3_byte a _ _ ga.1 ga.2 (by omega), o3_byte b _ _ gb.1 gb.2 (by omega), o3_byte c _ _ gc.1 gc.2 (by omega), h0, Nat.add_zero]
theorem swar_is (n : Nat) (hn : n < 4294967296) : ∃ a b c d : Nat, a ≤ 8 ∧ b ≤ 8 ∧ c ≤ 8 ∧ d ≤ 8 ∧ onesN n = a + b + c + d ∧ swar1 n < 4294967296 ∧ swar2 (swar1 n) < 4294967296 ∧ swar3 (swar2 (swar1 n)) = a + 256 * (b + 256 * (c + 256 * d)) := by
 have hx : n = n % 256 + 256 * (n / 256 % 256 + 256 * (n / 65536 % 256 + 256 * (n / 16777216))) := by omega
 have ha : n % 256 < 256 := by omega
 have hb : n / 256 % 256 < 256 := by omega
 have hc : n / 65536 % 256 < 256 := by omega
 have hd : n / 16777216 < 256 := by omega
 generalize n % 256 = a at *
 generalize n / 256 % 256 = b at *
 generalize n / 65536 % 256 = c at *
 generalize n / 16777216 = d at *
 obtain ⟨h1, h2, h3⟩ := swar_bytes a b c d ha hb hc hd
 rw [← hx] at h1 h2 h3
 have la := o1_lt ⟨a, ha⟩
 have lb := o1_lt ⟨b, hb⟩
 have lc := o1_lt ⟨c, hc⟩
 have ld := o1_lt ⟨d, hd⟩
 have ga := o2_lt ⟨a, ha⟩
 have gb := o2_lt ⟨b, hb⟩
 have gc := o2_lt ⟨c, hc⟩
 have gd := o2_lt ⟨d, hd⟩
 simp only at la lb lc ld ga gb gc gd
 have s := onesN_split 8 a (b + 256 * (c + 256 * d)) ha
 have s2 := onesN_split 8 b (c + 256 * d) hb
 have s3 := onesN_split 8 c d hc
 rw [show (2 : Nat) ^ 8 = 256 by decide] at s s2 s3
 rw [← hx] at s
 refine ⟨onesN a, onesN b, onesN c, onesN d, onesN_bits 8 a ha, onesN_bits 8 b hb, onesN_bits 8 c hc, onesN_bits 8 d hd, by omega, by omega, by omega, h3⟩
theorem ctz_tones : ∀ (f n : Nat), n + 1 < 2 ^ f → Lib.ctzFrom f (2 ^ f - 1 - n) = tonesN n
 | 0, n, h => by simp at h
 | f + 1, n, h => by
  rw [Nat.pow_succ] at h
  unfold Lib.ctzFrom
  by_cases hp : n % 2 = 1
  ·rw [if_neg (by rw [Nat.pow_succ]; omega), tonesN_odd hp, show (2 ^ (f + 1) - 1 - n) / 2 = 2 ^ f - 1 - n / 2 by rw [Nat.pow_succ]; omega, ctz_tones f (n / 2) (by omega)]
   omega
  ·rw [if_pos (by rw [Nat.pow_succ]; omega), tonesN_even hp]
theorem ctz_is (n : Nat) (hn : n ≤ 1073741824) : Lib.ctz 64 (18446744073709551615 - n) = tonesN n := by
 have := ctz_tones 64 n (by omega)
 rw [show (2 : Nat) ^ 64 - 1 = 18446744073709551615 by decide] at this
 unfold Lib.ctz
 rw [if_neg (by omega), this]
theorem tones_ones : ∀ n, tonesN n ≤ onesN n := by
 intro n
 induction n using Nat.strongRecOn with
 | ind n ih =>
 by_cases h : n % 2 = 1
 ·rw [tonesN_odd h, onesN_odd h]
  have := ih (n / 2) (by omega)
  omega
 ·rw [tonesN_even h]
  exact Nat.zero_le _
end Go.Proofs.YtfpppmamkmaneaaDoor

set_option maxRecDepth 20000
set_option linter.unusedSimpArgs false
set_option linter.unusedVariables false
namespace Go.Proofs.YtfpppmamkmaneaaDoor
open Go.RowKit
section
variable {P : Program} {ops : Array Oper} {rest : List Oper} {o : Oper} {a : Act} {W : World} {Q : Exit → Act → World → Prop} {d : Option Tmp}
theorem L_andU (hd : o.dst = d) (hw : Region.wanted o (yielded ops a.tmps) = true) {t t' : TypeId} {x y : Operand} (ho : o.op = .binOp .and t x y t') {m c : Nat} (hx : a.eval x = .int .u64 ((m : Nat) : Int)) (hy : a.eval y = .int .u64 ((c : Nat) : Int)) (hm : m < 18446744073709551616) (hc : c < 18446744073709551616)
  (h : wpList P ops Q rest (a.put d (.int .u64 ((m &&& c : Nat) : Int))) W) : wpList P ops Q (o :: rest) a W := by
 refine L_val hd hw ?_ h
 unfold execOp
 simp only [ho, hx, hy]
 have h1 : (eqGuard .and t x y (.int .u64 (m : Int)) (.int .u64 (c : Int))).run P W = .ok () W := by simp [eqGuard]
 have h2 : (Go.binOp .and t (.int .u64 (m : Int)) (.int .u64 (c : Int))).run P W = .ok (.int .u64 ((m &&& c : Nat) : Int)) W := by
  show (Op.intBits .and .u64 (m : Int) (c : Int)).run P W = _
  exact congrArg (fun z => Result.ok (Value.int .u64 z) W) (bits_and_u64_nat m c hm hc)
 simp [h1, h2]
theorem L_addU (hd : o.dst = d) (hw : Region.wanted o (yielded ops a.tmps) = true) {t t' : TypeId} {x y : Operand} (ho : o.op = .binOp .add t x y t') {m c : Nat} (hx : a.eval x = .int .u64 ((m : Nat) : Int)) (hy : a.eval y = .int .u64 ((c : Nat) : Int)) (hm : m + c < 18446744073709551616)
  (h : wpList P ops Q rest (a.put d (.int .u64 ((m + c : Nat) : Int))) W) : wpList P ops Q (o :: rest) a W := by
 refine L_val hd hw ?_ h
 unfold execOp
 simp only [ho, hx, hy]
 have h1 : (eqGuard .add t x y (.int .u64 (m : Int)) (.int .u64 (c : Int))).run P W = .ok () W := by simp [eqGuard]
 have h2 : (Go.binOp .add t (.int .u64 (m : Int)) (.int .u64 (c : Int))).run P W = .ok (.int .u64 ((m + c : Nat) : Int)) W := by
  have : IntKind.u64.wrap ((m : Int) + (c : Int)) = ((m + c : Nat) : Int) := by rw [IntKind.wrap_u64]; omega
  simp [Go.binOp, Op.intArith, this]
 simp [h1, h2]
end
theorem land_lt (a b : Nat) : a &&& b ≤ b := Nat.and_le_right
set_option maxHeartbeats 2000000 in
theorem ones64_any (n : Nat) (hn : n ≤ 1073741824) (w : World) : Calls Tryd.prog 99 #[.int .u64 (n : Int)] w fun e w' => e = .returned (.int .i64 (onesN n : Int)) ∧ w' = w := by
 obtain ⟨x0, x1, x2, x3, l0, l1, l2, l3, hs, hb1, hb2, h3⟩ := swar_is n (by omega)
 have e1 : (n >>> 1 &&& 6148914691236517205) + (n &&& 6148914691236517205) = swar1 n := by rw [Nat.shiftRight_eq_div_pow]; rfl
 have e2 : (swar1 n >>> 2 &&& 3689348814741910323) + (swar1 n &&& 3689348814741910323) = swar2 (swar1 n) := by rw [Nat.shiftRight_eq_div_pow]; rfl
 have e3 : (swar2 (swar1 n) >>> 4 + swar2 (swar1 n)) &&& 1085102592571150095 = swar3 (swar2 (swar1 n)) := by rw [Nat.shiftRight_eq_div_pow]; rfl
 have k1 := land_lt (n >>> 1) 6148914691236517205
 have k2 := land_lt n 6148914691236517205
 have k3 := land_lt (swar1 n >>> 2) 3689348814741910323
 have k4 := land_lt (swar1 n) 3689348814741910323
 have s1 : n >>> 1 ≤ n := by rw [Nat.shiftRight_eq_div_pow]; exact Nat.div_le_self _ _
 have s2 : swar1 n >>> 2 ≤ swar1 n := by rw [Nat.shiftRight_eq_div_pow]; exact Nat.div_le_self _ _
 have s3 : swar2 (swar1 n) >>> 4 ≤ swar2 (swar1 n) := by rw [Nat.shiftRight_eq_div_pow]; exact Nat.div_le_self _ _
 obtain ⟨y, hy⟩ : ∃ y, y = x0 + 256 * (x1 + 256 * (x2 + 256 * x3)) := ⟨_, rfl⟩
 have e4 : y + y >>> 8 = (x0 + x1) + 256 * ((x1 + x2) + 256 * ((x2 + x3) + 256 * x3)) := by rw [Nat.shiftRight_eq_div_pow, hy]; omega
 obtain ⟨z, hz⟩ : ∃ z, z = y + y >>> 8 := ⟨_, rfl⟩
 have e5 : z + z >>> 16 = (x0 + x1 + x2 + x3) + 256 * ((x1 + x2 + x3) + 256 * ((x2 + x3) + 256 * x3)) := by rw [Nat.shiftRight_eq_div_pow, hz, e4]; omega
 obtain ⟨u, hu⟩ : ∃ u, u = z + z >>> 16 := ⟨_, rfl⟩
 have hul : u < 4294967296 := by rw [hu, e5]; omega
 have e6 : u + u >>> 32 = u := by rw [Nat.shiftRight_eq_div_pow]; omega
 have e7 : u % 128 = onesN n := by rw [hu, e5, hs]; omega
 go_enter Tryd.func99, Tryd.ntmps99
 go_wp2_with (first
  | (refine L_shr (d := some 4) rfl rfl rfl (ev_tmp rfl) (c := 1) rfl (by decide) ?_)
  | (refine L_andU (d := some 5) rfl rfl rfl (ev_tmp rfl) (c := 6148914691236517205) rfl (by omega) (by decide) ?_)
  | (refine L_andU (d := some 7) rfl rfl rfl (ev_tmp rfl) (c := 6148914691236517205) rfl (by omega) (by decide) ?_)
  | (refine L_addU (d := some 8) rfl rfl rfl (ev_tmp rfl) (ev_tmp rfl) (by omega) ?_; rw [e1])
  | (refine L_shr (d := some 10) rfl rfl rfl (ev_tmp rfl) (c := 2) rfl (by decide) ?_)
  | (refine L_andU (d := some 11) rfl rfl rfl (ev_tmp rfl) (c := 3689348814741910323) rfl (by omega) (by decide) ?_)
  | (refine L_andU (d := some 13) rfl rfl rfl (ev_tmp rfl) (c := 3689348814741910323) rfl (by omega) (by decide) ?_)
  | (refine L_addU (d := some 14) rfl rfl rfl (ev_tmp rfl) (ev_tmp rfl) (by omega) ?_; rw [e2])
  | (refine L_shr (d := some 16) rfl rfl rfl (ev_tmp rfl) (c := 4) rfl (by decide) ?_)
  | (refine L_addU (d := some 18) rfl rfl rfl (ev_tmp rfl) (ev_tmp rfl) (by omega) ?_)
  | (refine L_andU (d := some 19) rfl rfl rfl (ev_tmp rfl) (c := 1085102592571150095) rfl (by omega) (by decide) ?_; rw [e3, h3, ← hy])
  | (simp only [i64_and127])
  | fail)
 go_ret
 refine ⟨congrArg Ending.returned ?_, rfl⟩
 congr 1
 simp only [IntKind.wrap_u64]
 rw [hs]
 go_num
theorem ones_any (n : Nat) (hn : n ≤ 1073741824) (w : World) : Calls Tryd.prog 80 #[.int .u64 (n : Int)] w fun e w' => e = .returned (.int .i64 (onesN n : Int)) ∧ w' = w := by
 go_enter Tryd.func80, Tryd.ntmps80
 go_wp2_with (first
  | (go_at_call 99; refine (ones64_any n hn _).mono ?_; rintro e W7 ⟨rfl, rfl⟩)
  | fail)
 go_ret
 exact ⟨rfl, rfl⟩
def dzArr : Array Value := (Lib.deBruijn64tab.map fun (k : Nat) => Value.int .u8 (k : Int)).toArray
def Dz (W : World) : Prop := ∃ t fr, W.heap[1]? = some (.cells dzArr t fr)
theorem Dz.lt {W : World} (h : Dz W) : 1 < W.heap.size := by
 obtain ⟨t, fr, h⟩ := h
 exact (Array.getElem?_eq_some_iff.1 h).1
theorem Dz.of {w0 W : World} {L : List Res} (h : Dz w0) (hst : St w0 W L) : Dz W := by
 obtain ⟨t, fr, hg⟩ := h
 exact ⟨t, fr, (hst.below.block _ (Array.getElem?_eq_some_iff.1 hg).1).trans hg⟩
theorem dz_at (j : Nat) (hj : j < Lib.deBruijn64tab.length) : dzArr[j]? = some (.int .u8 ((Lib.deBruijn64tab.getD j 0 : Nat) : Int)) := by
 simp [dzArr, List.getD_eq_getElem?_getD, hj]
set_option maxHeartbeats 1000000 in
theorem tz64_core (x k idx : Nat) (w : World) (hx0 : ((x : Int) == 0) = false)
  (key : IntKind.u64.wrap (bits BinOp.and IntKind.u64 (x : Int) (IntKind.u64.wrap (-(x : Int))) * 285870213051353865) / 288230376151711744 = (idx : Int))
  (hi : idx < 64) (hk : k < 64) (hcell : w.cell? ⟨1, idx, none⟩ = some (.int .u8 k)) :
  Calls Tryd.prog 82 #[.int .u64 x] w fun e w' => e = .returned (.int .i64 k) ∧ w' = w := by
 go_enter Tryd.func82, Tryd.ntmps82
 go_wp2_with (simp only [key])
 go_ret
 exact ⟨rfl, rfl⟩
theorem tz64_any (x : Nat) (hx : x < 18446744073709551616) (hx0 : x ≠ 0) (w : World) (hD : Dz w) : Calls Tryd.prog 82 #[.int .u64 (x : Int)] w fun e w' => e = .returned (.int .i64 (Lib.ctz 64 x : Int)) ∧ w' = w := by
 obtain ⟨hlow, hk⟩ := Lib.lowest_bit 64 x hx0 hx
 obtain ⟨hi, htab⟩ := Lib.deBruijn64_at _ hk
 obtain ⟨t, fr, hg⟩ := hD
 have hcell := cell_of hg (dz_at _ hi)
 rw [htab] at hcell
 exact tz64_core x _ _ w (by simp; omega) (tz64_key x _ hx hx0 hlow) hi hk hcell
theorem tz_any (x : Nat) (hx : x < 18446744073709551616) (hx0 : x ≠ 0) (w : World) (hD : Dz w) : Calls Tryd.prog 61 #[.int .u64 (x : Int)] w fun e w' => e = .returned (.int .i64 (Lib.ctz 64 x : Int)) ∧ w' = w := by
 have H := Lib.hid (tz64_any x hx hx0 w hD)
 go_enter Tryd.func61, Tryd.ntmps61
 go_wp2_with (first
  | (go_at_call 82; refine H.out.mono ?_; rintro e W7 ⟨rfl, rfl⟩)
  | fail)
 go_ret
 exact ⟨rfl, rfl⟩
end Go.Proofs.YtfpppmamkmaneaaDoor

set_option maxRecDepth 20000
set_option linter.unusedSimpArgs false
set_option linter.unusedVariables false
namespace Go.Proofs.YtfpppmamkmaneaaDoor
open Go.RowKit
set_option maxHeartbeats 1000000 in
theorem rnode_any (l r : Dig) (w : World) : Calls Tryd.prog 36 #[l.v, r.v] w fun e w' => e = .returned (nodeN l r).v ∧ St w w' [] := by
 have hst := St.refl w
 have HD := Lib.hid (show digsL [l, r] = l.arr.toList ++ r.arr.toList by simp [digsL, Dig.toList])
 go_enter Tryd.func36, Tryd.ntmps36
 go_wp2_with (first
  | (go_at_call 67; (try clear hnew); refine (rof_any 1 [l, r] _ _ _ _ (by rw [HD.out]; exact hst.sl 0 rfl) (by decide)).mono ?_; rintro e Wk1 ⟨rfl, hnew⟩; replace hst := hst.keep hnew)
  | (refine L_boxA (d := some 2) rfl rfl rfl (ev_tmp rfl) ?_; (try clear hnew); intro g2 W2 hnew; replace hst := hst.trans hnew; simp only [List.cons_append, List.nil_append] at hst)
  | (refine L_boxA (d := some 3) rfl rfl rfl (ev_tmp rfl) ?_; (try clear hnew); intro g3 W3 hnew; replace hst := hst.trans hnew; simp only [List.cons_append, List.nil_append] at hst)
  | (refine L_allocA (d := some 4) rfl rfl rfl el_api_Digest ?_; (try clear hnew); intro g4 W4 hnew; replace hst := hst.trans hnew; simp only [List.cons_append, List.nil_append] at hst)
  | (first | (refine L_loadA (d := some 5) rfl rfl rfl (by rfl) Tryd.underlying25 rfl el_api_Digest (by first | exact hst.get 0 rfl | exact hst.get 1 rfl | exact hst.get 2 rfl | exact hst.get 3 rfl | exact hst.get 4 rfl | exact hst.get 5 rfl) (by first | rfl | exact Dig.size _ | (simp; done)) ?_) | (refine L_loadM (d := some 5) rfl rfl rfl (by rfl) Tryd.underlying25 rfl el_api_Digest (by first | assumption) (by first | rfl | exact Dig.size _ | (simp; done)) ?_))
  | (first | (refine L_loadA (d := some 6) rfl rfl rfl (by rfl) Tryd.underlying25 rfl el_api_Digest (by first | exact hst.get 0 rfl | exact hst.get 1 rfl | exact hst.get 2 rfl | exact hst.get 3 rfl | exact hst.get 4 rfl | exact hst.get 5 rfl) (by first | rfl | exact Dig.size _ | (simp; done)) ?_) | (refine L_loadM (d := some 6) rfl rfl rfl (by rfl) Tryd.underlying25 rfl el_api_Digest (by first | assumption) (by first | rfl | exact Dig.size _ | (simp; done)) ?_))
  | (refine L_buildS (d := some 7) rfl rfl rfl [_, _] (bs_2 (ev_tmp rfl) (ev_tmp rfl)) rfl Tryd.underlying22 el_api_Digest rfl (by first | (simp [Value.cells]; done) | (simp [Value.cells, Dig.size]; done)) (by decide) (by decide) ?_; (try clear hnew); intro g7 W7 hnew; replace hst := hst.trans hnew; simp only [List.cons_append, List.nil_append] at hst; simp only [List.flatMap_cons, List.flatMap_nil, List.append_nil, Value.cells, List.toList_toArray] at hst)
  | (refine wpl_at (.store 25 (.tmp 4) (.tmp 8)) rfl ?_; first | (refine L_storeA rfl rfl hst rfl (by rfl) (ev_tmp rfl) (by first | rfl | exact Dig.one _ | (simp; done)) el_api_Digest (by first | rfl | exact Dig.size _ | (simp; done)) 0 rfl (by first | rfl | exact Dig.size _ | (simp; done)) ?_; clear hst; intro WS4 hst; simp only [List.set_cons_zero, List.set_cons_succ] at hst) | (refine L_storeA rfl rfl hst rfl (by rfl) (ev_tmp rfl) (by first | rfl | exact Dig.one _ | (simp; done)) el_api_Digest (by first | rfl | exact Dig.size _ | (simp; done)) 1 rfl (by first | rfl | exact Dig.size _ | (simp; done)) ?_; clear hst; intro WS4 hst; simp only [List.set_cons_zero, List.set_cons_succ] at hst) | (refine L_storeA rfl rfl hst rfl (by rfl) (ev_tmp rfl) (by first | rfl | exact Dig.one _ | (simp; done)) el_api_Digest (by first | rfl | exact Dig.size _ | (simp; done)) 2 rfl (by first | rfl | exact Dig.size _ | (simp; done)) ?_; clear hst; intro WS4 hst; simp only [List.set_cons_zero, List.set_cons_succ] at hst) | (refine L_storeA rfl rfl hst rfl (by rfl) (ev_tmp rfl) (by first | rfl | exact Dig.one _ | (simp; done)) el_api_Digest (by first | rfl | exact Dig.size _ | (simp; done)) 3 rfl (by first | rfl | exact Dig.size _ | (simp; done)) ?_; clear hst; intro WS4 hst; simp only [List.set_cons_zero, List.set_cons_succ] at hst) | (refine L_storeA rfl rfl hst rfl (by rfl) (ev_tmp rfl) (by first | rfl | exact Dig.one _ | (simp; done)) el_api_Digest (by first | rfl | exact Dig.size _ | (simp; done)) 4 rfl (by first | rfl | exact Dig.size _ | (simp; done)) ?_; clear hst; intro WS4 hst; simp only [List.set_cons_zero, List.set_cons_succ] at hst) | (refine L_storeA rfl rfl hst rfl (by rfl) (ev_tmp rfl) (by first | rfl | exact Dig.one _ | (simp; done)) el_api_Digest (by first | rfl | exact Dig.size _ | (simp; done)) 5 rfl (by first | rfl | exact Dig.size _ | (simp; done)) ?_; clear hst; intro WS4 hst; simp only [List.set_cons_zero, List.set_cons_succ] at hst) | (refine L_storeM rfl rfl hst rfl (by rfl) (ev_tmp rfl) (by first | rfl | exact Dig.one _ | (simp; done)) el_api_Digest (by first | rfl | exact Dig.size _ | (simp; done)) 0 rfl (by first | exact of_decide_eq_true rfl | (simp; done)) ?_; clear hst; intro WS4 hst; simp only [List.set_cons_zero, List.set_cons_succ] at hst)  | (refine L_storeM rfl rfl hst rfl (by rfl) (ev_tmp rfl) (by first | rfl | exact Dig.one _ | (simp; done)) el_api_Digest (by first | rfl | exact Dig.size _ | (simp; done)) 1 rfl (by first | exact of_decide_eq_true rfl | (simp; done)) ?_; clear hst; intro WS4 hst; simp only [List.set_cons_zero, List.set_cons_succ] at hst)  | (refine L_storeM rfl rfl hst rfl (by rfl) (ev_tmp rfl) (by first | rfl | exact Dig.one _ | (simp; done)) el_api_Digest (by first | rfl | exact Dig.size _ | (simp; done)) 2 rfl (by first | exact of_decide_eq_true rfl | (simp; done)) ?_; clear hst; intro WS4 hst; simp only [List.set_cons_zero, List.set_cons_succ] at hst)  | (refine L_storeM rfl rfl hst rfl (by rfl) (ev_tmp rfl) (by first | rfl | exact Dig.one _ | (simp; done)) el_api_Digest (by first | rfl | exact Dig.size _ | (simp; done)) 3 rfl (by first | exact of_decide_eq_true rfl | (simp; done)) ?_; clear hst; intro WS4 hst; simp only [List.set_cons_zero, List.set_cons_succ] at hst)  | (refine L_storeM rfl rfl hst rfl (by rfl) (ev_tmp rfl) (by first | rfl | exact Dig.one _ | (simp; done)) el_api_Digest (by first | rfl | exact Dig.size _ | (simp; done)) 4 rfl (by first | exact of_decide_eq_true rfl | (simp; done)) ?_; clear hst; intro WS4 hst; simp only [List.set_cons_zero, List.set_cons_succ] at hst)  | (refine L_storeM rfl rfl hst rfl (by rfl) (ev_tmp rfl) (by first | rfl | exact Dig.one _ | (simp; done)) el_api_Digest (by first | rfl | exact Dig.size _ | (simp; done)) 5 rfl (by first | exact of_decide_eq_true rfl | (simp; done)) ?_; clear hst; intro WS4 hst; simp only [List.set_cons_zero, List.set_cons_succ] at hst))
  | fail)
 refine bp_cell rfl rfl rfl (hst.get 1 rfl) Tryd.underlying25 rfl el_api_Digest (by first | rfl | exact Dig.size _ | (simp; done)) ?_
 exact ⟨rfl, hst.forget⟩
set_option maxHeartbeats 1000000 in
theorem rhalf_any (n : Nat) (h2 : 2 ≤ n) (hn : n ≤ 256) (w : World) : Calls Tryd.prog 55 #[.int .i64 (n : Int)] w fun e w' => e = .returned (.int .i64 (halfN n : Int)) ∧ St w w' [] := by
 have hst := St.refl w
 go_enter Tryd.func55, Tryd.ntmps55
 go_wp2_with (first
  | fail)
 go_loopg [3] (n - 1) (fun gk s3 wr => ∃ (k j : Nat), Hid (k + gk = n) ∧ Hid (k = 2 ^ j) ∧ k < n ∧ 0 < k ∧ s3 = .int .i64 (k : Int) ∧ St w wr [])
 case atStart => exact ⟨1, 0, Lib.hid (by omega), Lib.hid rfl, by omega, by omega, rfl, hst⟩
 case round =>
  clear hst
  obtain ⟨k, j, HI, HJ, hkn, hk0, rfl, hst⟩ := hrel
  have hi := HI.out
  by_cases hin : 2 * k < n
  ·clear hi
   go_wp2_with (first
    | fail)
   go_roundg (n - 2 * k)
   case measure => have hi := HI.out; omega
   case rel =>
    have hi := HI.out
    exact ⟨2 * k, j + 1, Lib.hid (by omega), Lib.hid (by rw [HJ.out, Nat.pow_succ]; omega), hin, by omega, by go_num, hst⟩
  ·have hh := halfN_of j HJ.out hkn (by omega)
   have HH := Lib.hid hh
   clear hi HI hh HJ
   go_wp2_with (first
    | fail)
   go_ret
   exact ⟨by rw [HH.out]; rfl, hst⟩
theorem longN_le : ∀ (n i : Nat), longN i n ≤ n := by
 intro n
 induction n using Nat.strongRecOn with
 | ind n ih =>
 intro i
 by_cases h : n < 2
 ·rw [longN_one i h]; exact Nat.zero_le _
 ·have h1 := halfN_lt n (by omega)
  have h2 := halfN_pos n
  by_cases hi : i < halfN n
  ·rw [longN_left (by omega) hi]; have := ih _ h1 i; omega
  ·rw [longN_right (by omega) hi]; have := ih (n - halfN n) (by omega) (i - halfN n); omega
set_option maxHeartbeats 2000000 in
theorem rlong_any : ∀ (n i : Nat) (w : World), i < n → n ≤ 256 → Calls Tryd.prog 18 #[.int .i64 (i : Int), .int .i64 (n : Int)] w fun e w' => e = .returned (.int .i64 (longN i n : Int)) ∧ St w w' [] := by
 intro n
 induction n using Nat.strongRecOn with
 | ind n ih =>
 intro i w hin hn
 have hst := St.refl w
 by_cases h1 : n = 1
 ·subst h1
  rw [longN_one i (by omega)]
  go_enter Tryd.func18, Tryd.ntmps18
  go_wp2_with (first
   | fail)
  go_ret
  exact ⟨rfl, hst⟩
 ·have hlt := halfN_lt n (by omega)
  have hps := halfN_pos n
  have h1' : ¬ (n : Int) = 1 := by omega
  have HF := Lib.hid (fun w => rhalf_any n (by omega) (by omega) w)
  by_cases hk : i < halfN n
  ·have HN := Lib.hid (show longN i n = longN i (halfN n) + 1 from longN_left (by omega) hk)
   have hle := longN_le (halfN n) i
   have HI := Lib.hid (fun w => ih (halfN n) hlt i w hk (by omega))
   rw [HN.out]
   generalize halfN n = k at *
   generalize longN i k = r at *
   go_enter Tryd.func18, Tryd.ntmps18
   go_wp2_with (first
    | (go_at_call 55; (try clear hnew); refine (HF.out _).mono ?_; rintro e Wk2 ⟨rfl, hnew⟩; replace hst := hst.keep hnew)
    | (go_at_call 18; (try clear hnew); refine (HI.out _).mono ?_; rintro e Wk3 ⟨rfl, hnew⟩; replace hst := hst.keep hnew)
    | fail)
   go_ret
   exact ⟨congrArg Ending.returned (by go_num), hst⟩
  ·have HN := Lib.hid (show longN i n = longN (i - halfN n) (n - halfN n) + 1 from longN_right (by omega) hk)
   have hle := longN_le (n - halfN n) (i - halfN n)
   have HI := Lib.hid (fun w => ih (n - halfN n) (by omega) (i - halfN n) w (by omega) (by omega))
   rw [HN.out]
   have e1 : (((i - halfN n : Nat)) : Int) = (i : Int) - (halfN n : Int) := by omega
   have e2 : (((n - halfN n : Nat)) : Int) = (n : Int) - (halfN n : Int) := by omega
   rw [e1, e2] at HI
   clear e1 e2
   generalize longN (i - halfN n) (n - halfN n) = r at *
   generalize halfN n = k at *
   go_enter Tryd.func18, Tryd.ntmps18
   go_wp2_with (first
    | (go_at_call 55; (try clear hnew); refine (HF.out _).mono ?_; rintro e Wk4 ⟨rfl, hnew⟩; replace hst := hst.keep hnew)
    | (go_at_call 18; (try clear hnew); refine (HI.out _).mono ?_; rintro e Wk5 ⟨rfl, hnew⟩; replace hst := hst.keep hnew)
    | fail)
   go_ret
   exact ⟨congrArg Ending.returned (by go_num), hst⟩
theorem path_last (path : List Dig) (m : Nat) (hl : path.length = m + 1) : ∃ rest p, path = rest ++ [p] ∧ rest.length = m ∧ ((digsL path).drop (m * 32)).take 32 = p.arr.toList ∧ ((digsL path).drop (0 * 32)).take ((m - 0) * 32) = digsL rest := by
 refine ⟨path.take m, path[m]'(by omega), ?_, by rw [List.length_take]; omega, by rw [Dig.toList]; exact digsL_at path m (by omega), ?_⟩
 ·have := List.take_succ_eq_append_getElem (l := path) (i := m) (by omega)
  rw [← this, List.take_of_length_le (by omega)]
 ·rw [digsL_cut]
  rfl
set_option maxHeartbeats 4000000 in
theorem rfolded_any : ∀ (n : Nat) (l : Dig) (path : List Dig) (A : Option Addr) (m c i : Nat) (w : World), SlR w A m c 32 (digsL path) → m = longN i n → i < n → n ≤ 256 →
  Calls Tryd.prog 34 #[l.v, .int .i64 (i : Int), .int .i64 (n : Int), .slice A m c] w fun e w' => e = .returned (foldedN l i n path).v ∧ St w w' [] := by
 intro n
 induction n using Nat.strongRecOn with
 | ind n ih =>
 intro l path A m c i w hx hm hin hn
 have hst := St.refl w
 have hl : path.length = m := by have := hx.1; rw [length_digsL] at this; omega
 have hcap := hx.2.1
 have hmax := hx.2.2.1
 simp only [maxLen] at hmax
 by_cases h1 : n = 1
 ·subst h1
  rw [foldedN_one l i (by omega)]
  clear hm hl
  go_enter Tryd.func34, Tryd.ntmps34
  go_wp2_with (first
   | (refine L_boxA (d := some 4) rfl rfl rfl (ev_tmp rfl) ?_; (try clear hnew); intro g4 W4 hnew; replace hst := hst.trans hnew; simp only [List.cons_append, List.nil_append] at hst)
   | (refine L_allocA (d := some 8) rfl rfl rfl el_api_Digest ?_; (try clear hnew); intro g8 W8 hnew; replace hst := hst.trans hnew; simp only [List.cons_append, List.nil_append] at hst)
   | (first | (refine L_loadA (d := some 14) rfl rfl rfl (by rfl) Tryd.underlying25 rfl el_api_Digest (by first | exact hst.get 0 rfl | exact hst.get 1 rfl) (by first | rfl | exact Dig.size _ | (simp; done)) ?_) | (refine L_loadM (d := some 14) rfl rfl rfl (by rfl) Tryd.underlying25 rfl el_api_Digest (by first | assumption) (by first | rfl | exact Dig.size _ | (simp; done)) ?_))
   | (refine wpl_at (.store 25 (.tmp 8) (.tmp 14)) rfl ?_; first | (refine L_storeA rfl rfl hst rfl (by rfl) (ev_tmp rfl) (by first | rfl | exact Dig.one _ | (simp; done)) el_api_Digest (by first | rfl | exact Dig.size _ | (simp; done)) 0 rfl (by first | rfl | exact Dig.size _ | (simp; done)) ?_; clear hst; intro WS1 hst; simp only [List.set_cons_zero, List.set_cons_succ] at hst) | (refine L_storeA rfl rfl hst rfl (by rfl) (ev_tmp rfl) (by first | rfl | exact Dig.one _ | (simp; done)) el_api_Digest (by first | rfl | exact Dig.size _ | (simp; done)) 1 rfl (by first | rfl | exact Dig.size _ | (simp; done)) ?_; clear hst; intro WS1 hst; simp only [List.set_cons_zero, List.set_cons_succ] at hst) | (refine L_storeM rfl rfl hst rfl (by rfl) (ev_tmp rfl) (by first | rfl | exact Dig.one _ | (simp; done)) el_api_Digest (by first | rfl | exact Dig.size _ | (simp; done)) 0 rfl (by first | exact of_decide_eq_true rfl | (simp; done)) ?_; clear hst; intro WS1 hst; simp only [List.set_cons_zero, List.set_cons_succ] at hst)  | (refine L_storeM rfl rfl hst rfl (by rfl) (ev_tmp rfl) (by first | rfl | exact Dig.one _ | (simp; done)) el_api_Digest (by first | rfl | exact Dig.size _ | (simp; done)) 1 rfl (by first | exact of_decide_eq_true rfl | (simp; done)) ?_; clear hst; intro WS1 hst; simp only [List.set_cons_zero, List.set_cons_succ] at hst))
   | fail)
  refine bp_cell rfl rfl rfl (hst.get 0 rfl) Tryd.underlying25 rfl el_api_Digest (by first | rfl | exact Dig.size _ | (simp; done)) ?_
  exact ⟨rfl, hst.forget⟩
 ·have hlt := halfN_lt n (by omega)
  have hps := halfN_pos n
  have h1' : ¬ (n : Int) = 1 := by omega
  have HF := Lib.hid (fun w => rhalf_any n (by omega) (by omega) w)
  by_cases hk : i < halfN n
  ·rw [longN_left (by omega) hk] at hm
   obtain ⟨rest, p, rfl, hr, hp, hc⟩ := path_last path (longN i (halfN n)) (by omega)
   rw [foldedN_left l (by omega) hk rest p hr]
   obtain ⟨r, hr'⟩ : ∃ r, r = longN i (halfN n) := ⟨_, rfl⟩
   rw [← hr'] at hm hp hc
   subst hm
   have HP := Lib.hid (show ((digsL (rest ++ [p])).drop ((r : Int).toNat * 32)).take 32 = p.arr.toList from hp)
   have HC := Lib.hid hc
   have HI := Lib.hid (fun A c w hs => ih (halfN n) hlt l rest A r c i w hs hr' hk (by omega))
   clear hr hr' hp hc hl ih
   generalize foldedN l i (halfN n) rest = u at *
   generalize halfN n = k at *
   go_enter Tryd.func34, Tryd.ntmps34
   go_wp2_with (first
    | (go_at_call 55; (try clear hnew); refine (HF.out _).mono ?_; rintro e Wk6 ⟨rfl, hnew⟩; replace hst := hst.keep hnew)
    | (refine L_loadM (d := some 22) rfl rfl rfl (by rfl) Tryd.underlying25 rfl el_api_Digest (cs := p.arr) (by rw [← HP.out]; exact hr21) (Dig.size _) ?_)
    | (refine L_boxA (d := some 4) rfl rfl rfl (ev_tmp rfl) ?_; (try clear hnew); intro g4 W4 hnew; replace hst := hst.trans hnew; simp only [List.cons_append, List.nil_append] at hst)
    | (refine L_allocA (d := some 8) rfl rfl rfl el_api_Digest ?_; (try clear hnew); intro g8 W8 hnew; replace hst := hst.trans hnew; simp only [List.cons_append, List.nil_append] at hst)
    | (refine L_idxS (d := some 21) rfl rfl rfl (by rfl) (by rfl) Tryd.underlying22 el_api_Digest (by first | exact hst.old (by decide) hx | assumption | exact hst.sl 0 rfl | exact hst.sl 1 rfl | exact hst.sl 2 rfl | exact hst.old (by decide) (by assumption)) (by omega) (by omega) ?_; intro o21 p21 ha21 hr21; (first | subst ha21 | (obtain ⟨h1, h2⟩ := some_addr ha21; subst h1; subst h2; clear ha21) | skip))
    | (first | (refine L_loadA (d := some 22) rfl rfl rfl (by rfl) Tryd.underlying25 rfl el_api_Digest (by first | exact hst.get 0 rfl | exact hst.get 1 rfl | exact hst.get 2 rfl) (by first | rfl | exact Dig.size _ | (simp; done)) ?_) | (refine L_loadM (d := some 22) rfl rfl rfl (by rfl) Tryd.underlying25 rfl el_api_Digest (by first | assumption) (by first | rfl | exact Dig.size _ | (simp; done)) ?_))
    | (refine L_allocA (d := some 10) rfl rfl rfl el_api_Digest ?_; (try clear hnew); intro g10 W10 hnew; replace hst := hst.trans hnew; simp only [List.cons_append, List.nil_append] at hst)
    | (refine wpl_at (.store 25 (.tmp 10) (.tmp 22)) rfl ?_; first | (refine L_storeA rfl rfl hst rfl (by rfl) (ev_tmp rfl) (by first | rfl | exact Dig.one _ | (simp; done)) el_api_Digest (by first | rfl | exact Dig.size _ | (simp; done)) 0 rfl (by first | rfl | exact Dig.size _ | (simp; done)) ?_; clear hst; intro WS7 hst; simp only [List.set_cons_zero, List.set_cons_succ] at hst) | (refine L_storeA rfl rfl hst rfl (by rfl) (ev_tmp rfl) (by first | rfl | exact Dig.one _ | (simp; done)) el_api_Digest (by first | rfl | exact Dig.size _ | (simp; done)) 1 rfl (by first | rfl | exact Dig.size _ | (simp; done)) ?_; clear hst; intro WS7 hst; simp only [List.set_cons_zero, List.set_cons_succ] at hst) | (refine L_storeA rfl rfl hst rfl (by rfl) (ev_tmp rfl) (by first | rfl | exact Dig.one _ | (simp; done)) el_api_Digest (by first | rfl | exact Dig.size _ | (simp; done)) 2 rfl (by first | rfl | exact Dig.size _ | (simp; done)) ?_; clear hst; intro WS7 hst; simp only [List.set_cons_zero, List.set_cons_succ] at hst) | (refine L_storeM rfl rfl hst rfl (by rfl) (ev_tmp rfl) (by first | rfl | exact Dig.one _ | (simp; done)) el_api_Digest (by first | rfl | exact Dig.size _ | (simp; done)) 0 rfl (by first | exact of_decide_eq_true rfl | (simp; done)) ?_; clear hst; intro WS7 hst; simp only [List.set_cons_zero, List.set_cons_succ] at hst)  | (refine L_storeM rfl rfl hst rfl (by rfl) (ev_tmp rfl) (by first | rfl | exact Dig.one _ | (simp; done)) el_api_Digest (by first | rfl | exact Dig.size _ | (simp; done)) 1 rfl (by first | exact of_decide_eq_true rfl | (simp; done)) ?_; clear hst; intro WS7 hst; simp only [List.set_cons_zero, List.set_cons_succ] at hst)  | (refine L_storeM rfl rfl hst rfl (by rfl) (ev_tmp rfl) (by first | rfl | exact Dig.one _ | (simp; done)) el_api_Digest (by first | rfl | exact Dig.size _ | (simp; done)) 2 rfl (by first | exact of_decide_eq_true rfl | (simp; done)) ?_; clear hst; intro WS7 hst; simp only [List.set_cons_zero, List.set_cons_succ] at hst))
    | (first | (refine L_cutV (d := some 27) rfl rfl rfl (by rfl) Tryd.underlying22 el_api_Digest (by decide) hx 0 r _ (Or.inl ⟨rfl, rfl⟩) (Or.inr ⟨_, _, rfl, by first | exact ev_tmp rfl | (rw [ev_tmp rfl]; congr 1; omega)⟩) (Or.inl ⟨rfl, rfl⟩) (by omega) (by omega) (by omega) (by omega) ?_; intro A27 c27 hs27) | (refine L_cutO (d := some 27) rfl rfl hst rfl (by rfl) Tryd.underlying22 el_api_Digest 0 rfl (by first | rfl | omega) 0 r _ (Or.inl ⟨rfl, rfl⟩) (Or.inr ⟨_, _, rfl, by first | exact ev_tmp rfl | (rw [ev_tmp rfl]; congr 1; omega)⟩) (Or.inl ⟨rfl, rfl⟩) (by omega) (by omega) (by omega) (by omega) ?_; clear hst; intro A27 c27 hst; simp only [List.set_cons_zero, List.set_cons_succ] at hst) | (refine L_cutO (d := some 27) rfl rfl hst rfl (by rfl) Tryd.underlying22 el_api_Digest 1 rfl (by first | rfl | omega) 0 r _ (Or.inl ⟨rfl, rfl⟩) (Or.inr ⟨_, _, rfl, by first | exact ev_tmp rfl | (rw [ev_tmp rfl]; congr 1; omega)⟩) (Or.inl ⟨rfl, rfl⟩) (by omega) (by omega) (by omega) (by omega) ?_; clear hst; intro A27 c27 hst; simp only [List.set_cons_zero, List.set_cons_succ] at hst) | (refine L_cutO (d := some 27) rfl rfl hst rfl (by rfl) Tryd.underlying22 el_api_Digest 2 rfl (by first | rfl | omega) 0 r _ (Or.inl ⟨rfl, rfl⟩) (Or.inr ⟨_, _, rfl, by first | exact ev_tmp rfl | (rw [ev_tmp rfl]; congr 1; omega)⟩) (Or.inl ⟨rfl, rfl⟩) (by omega) (by omega) (by omega) (by omega) ?_; clear hst; intro A27 c27 hst; simp only [List.set_cons_zero, List.set_cons_succ] at hst) | (refine L_cutS (d := some 27) rfl rfl rfl (by rfl) Tryd.underlying22 el_api_Digest (by decide) (by first | exact hst.old (by decide) hx | assumption | exact hst.old (by decide) (by assumption) | exact hst.sl 0 rfl | exact hst.sl 1 rfl | exact hst.sl 2 rfl) 0 r _ (Or.inl ⟨rfl, rfl⟩) (Or.inr ⟨_, _, rfl, by first | exact ev_tmp rfl | (rw [ev_tmp rfl]; congr 1; omega)⟩) (Or.inl ⟨rfl, rfl⟩) (by omega) (by omega) (by omega) (by omega) ?_; intro A27 c27 hs27))
    | fail)
   (try clear hnew)
   refine wp_region_idx [(0, 0), (1, 0), (2, 0), (3, 0), (5, 0), (4, 2), (6, 2), (7, 1)] (by kernel_rfl) (by kernel_rfl) ?_
   replace hst := hst.drew
   refine idx_q rfl rfl ?_; go_wp2_with (first | (first | (refine L_loadA (d := some 31) rfl rfl rfl (by rfl) Tryd.underlying25 rfl el_api_Digest (by first | exact hst.get 0 rfl | exact hst.get 1 rfl | exact hst.get 2 rfl) (by first | rfl | exact Dig.size _ | (simp; done)) ?_) | (refine L_loadM (d := some 31) rfl rfl rfl (by rfl) Tryd.underlying25 rfl el_api_Digest (by first | assumption) (by first | rfl | exact Dig.size _ | (simp; done)) ?_)) | fail)
   refine idx_q rfl rfl ?_; go_wp2_with fail
   refine idx_q rfl rfl ?_; go_wp2_with fail
   refine idx_q rfl rfl ?_; go_wp2_with fail
   refine idx_q rfl rfl ?_; go_wp2_with (first | (first | (refine L_loadA (d := some 36) rfl rfl rfl (by rfl) Tryd.underlying25 rfl el_api_Digest (by first | exact hst.get 0 rfl | exact hst.get 1 rfl | exact hst.get 2 rfl) (by first | rfl | exact Dig.size _ | (simp; done)) ?_) | (refine L_loadM (d := some 36) rfl rfl rfl (by rfl) Tryd.underlying25 rfl el_api_Digest (by first | assumption) (by first | rfl | exact Dig.size _ | (simp; done)) ?_)) | fail)
   refine idx_g rfl ?_; go_wp2_with (first | (go_at_call 34; (try clear hnew); refine (HI.out A27 c27 _ (by rw [← HC.out]; exact hst.old (by decide) hs27)).mono ?_; rintro e Wk7 ⟨rfl, hnew⟩; replace hst := hst.keep hnew) | (go_at_call 36; (try clear hnew); with_reducible refine (rnode_any _ _ _).mono ?_; rintro e Wk8 ⟨rfl, hnew⟩; replace hst := hst.keep hnew) | fail); refine ⟨by first | exact Below.refl _ _ | exact hnew.below, ?_⟩
   refine idx_g rfl ?_; go_wp2_with (first | (go_at_call 34; (try clear hnew); refine (HI.out A27 c27 _ (by rw [← HC.out]; exact hst.old (by decide) hs27)).mono ?_; rintro e Wk7 ⟨rfl, hnew⟩; replace hst := hst.keep hnew) | (go_at_call 36; (try clear hnew); with_reducible refine (rnode_any _ _ _).mono ?_; rintro e Wk8 ⟨rfl, hnew⟩; replace hst := hst.keep hnew) | fail); refine ⟨by first | exact Below.refl _ _ | exact hnew.below, ?_⟩
   refine idx_e rfl ?_; go_wp2_with (first | (refine wpl_at (.store 25 (.tmp 8) (.tmp 37)) rfl ?_; first | (refine L_storeA rfl rfl hst rfl (by rfl) (ev_tmp rfl) (by first | rfl | exact Dig.one _ | (simp; done)) el_api_Digest (by first | rfl | exact Dig.size _ | (simp; done)) 0 rfl (by first | rfl | exact Dig.size _ | (simp; done)) ?_; clear hst; intro WS7 hst; simp only [List.set_cons_zero, List.set_cons_succ] at hst) | (refine L_storeA rfl rfl hst rfl (by rfl) (ev_tmp rfl) (by first | rfl | exact Dig.one _ | (simp; done)) el_api_Digest (by first | rfl | exact Dig.size _ | (simp; done)) 1 rfl (by first | rfl | exact Dig.size _ | (simp; done)) ?_; clear hst; intro WS7 hst; simp only [List.set_cons_zero, List.set_cons_succ] at hst) | (refine L_storeA rfl rfl hst rfl (by rfl) (ev_tmp rfl) (by first | rfl | exact Dig.one _ | (simp; done)) el_api_Digest (by first | rfl | exact Dig.size _ | (simp; done)) 2 rfl (by first | rfl | exact Dig.size _ | (simp; done)) ?_; clear hst; intro WS7 hst; simp only [List.set_cons_zero, List.set_cons_succ] at hst) | (refine L_storeM rfl rfl hst rfl (by rfl) (ev_tmp rfl) (by first | rfl | exact Dig.one _ | (simp; done)) el_api_Digest (by first | rfl | exact Dig.size _ | (simp; done)) 0 rfl (by first | exact of_decide_eq_true rfl | (simp; done)) ?_; clear hst; intro WS7 hst; simp only [List.set_cons_zero, List.set_cons_succ] at hst)  | (refine L_storeM rfl rfl hst rfl (by rfl) (ev_tmp rfl) (by first | rfl | exact Dig.one _ | (simp; done)) el_api_Digest (by first | rfl | exact Dig.size _ | (simp; done)) 1 rfl (by first | exact of_decide_eq_true rfl | (simp; done)) ?_; clear hst; intro WS7 hst; simp only [List.set_cons_zero, List.set_cons_succ] at hst)  | (refine L_storeM rfl rfl hst rfl (by rfl) (ev_tmp rfl) (by first | rfl | exact Dig.one _ | (simp; done)) el_api_Digest (by first | rfl | exact Dig.size _ | (simp; done)) 2 rfl (by first | exact of_decide_eq_true rfl | (simp; done)) ?_; clear hst; intro WS7 hst; simp only [List.set_cons_zero, List.set_cons_succ] at hst)) | fail)
   refine idx_nil ?_
   go_wp2_with fail
   refine bp_cell rfl rfl rfl (hst.get 1 rfl) Tryd.underlying25 rfl el_api_Digest (by first | rfl | exact Dig.size _ | (simp; done)) ?_
   exact ⟨rfl, hst.forget⟩
  ·rw [longN_right (by omega) hk] at hm
   obtain ⟨rest, p, rfl, hr, hp, hc⟩ := path_last path (longN (i - halfN n) (n - halfN n)) (by omega)
   rw [foldedN_right l (by omega) hk rest p hr]
   obtain ⟨r, hr'⟩ : ∃ r, r = longN (i - halfN n) (n - halfN n) := ⟨_, rfl⟩
   rw [← hr'] at hm hp hc
   subst hm
   have HP := Lib.hid (show ((digsL (rest ++ [p])).drop ((r : Int).toNat * 32)).take 32 = p.arr.toList from hp)
   have HC := Lib.hid hc
   have HI := Lib.hid (fun A c w hs => ih (n - halfN n) (by omega) l rest A r c (i - halfN n) w hs hr' (by omega) (by omega))
   have e1 : (((i - halfN n : Nat)) : Int) = (i : Int) - (halfN n : Int) := by omega
   have e2 : (((n - halfN n : Nat)) : Int) = (n : Int) - (halfN n : Int) := by omega
   rw [e1, e2] at HI
   clear hr hr' hp hc hl ih e1 e2
   generalize foldedN l (i - halfN n) (n - halfN n) rest = u at *
   generalize halfN n = k at *
   go_enter Tryd.func34, Tryd.ntmps34
   go_wp2_with (first
    | (go_at_call 55; (try clear hnew); refine (HF.out _).mono ?_; rintro e Wk9 ⟨rfl, hnew⟩; replace hst := hst.keep hnew)
    | (refine L_loadM (d := some 22) rfl rfl rfl (by rfl) Tryd.underlying25 rfl el_api_Digest (cs := p.arr) (by rw [← HP.out]; exact hr21) (Dig.size _) ?_)
    | (refine L_boxA (d := some 4) rfl rfl rfl (ev_tmp rfl) ?_; (try clear hnew); intro g4 W4 hnew; replace hst := hst.trans hnew; simp only [List.cons_append, List.nil_append] at hst)
    | (refine L_allocA (d := some 8) rfl rfl rfl el_api_Digest ?_; (try clear hnew); intro g8 W8 hnew; replace hst := hst.trans hnew; simp only [List.cons_append, List.nil_append] at hst)
    | (refine L_idxS (d := some 21) rfl rfl rfl (by rfl) (by rfl) Tryd.underlying22 el_api_Digest (by first | exact hst.old (by decide) hx | assumption | exact hst.sl 0 rfl | exact hst.sl 1 rfl | exact hst.sl 2 rfl | exact hst.old (by decide) (by assumption)) (by omega) (by omega) ?_; intro o21 p21 ha21 hr21; (first | subst ha21 | (obtain ⟨h1, h2⟩ := some_addr ha21; subst h1; subst h2; clear ha21) | skip))
    | (first | (refine L_loadA (d := some 22) rfl rfl rfl (by rfl) Tryd.underlying25 rfl el_api_Digest (by first | exact hst.get 0 rfl | exact hst.get 1 rfl | exact hst.get 2 rfl) (by first | rfl | exact Dig.size _ | (simp; done)) ?_) | (refine L_loadM (d := some 22) rfl rfl rfl (by rfl) Tryd.underlying25 rfl el_api_Digest (by first | assumption) (by first | rfl | exact Dig.size _ | (simp; done)) ?_))
    | (refine L_allocA (d := some 10) rfl rfl rfl el_api_Digest ?_; (try clear hnew); intro g10 W10 hnew; replace hst := hst.trans hnew; simp only [List.cons_append, List.nil_append] at hst)
    | (refine wpl_at (.store 25 (.tmp 10) (.tmp 22)) rfl ?_; first | (refine L_storeA rfl rfl hst rfl (by rfl) (ev_tmp rfl) (by first | rfl | exact Dig.one _ | (simp; done)) el_api_Digest (by first | rfl | exact Dig.size _ | (simp; done)) 0 rfl (by first | rfl | exact Dig.size _ | (simp; done)) ?_; clear hst; intro WS7 hst; simp only [List.set_cons_zero, List.set_cons_succ] at hst) | (refine L_storeA rfl rfl hst rfl (by rfl) (ev_tmp rfl) (by first | rfl | exact Dig.one _ | (simp; done)) el_api_Digest (by first | rfl | exact Dig.size _ | (simp; done)) 1 rfl (by first | rfl | exact Dig.size _ | (simp; done)) ?_; clear hst; intro WS7 hst; simp only [List.set_cons_zero, List.set_cons_succ] at hst) | (refine L_storeA rfl rfl hst rfl (by rfl) (ev_tmp rfl) (by first | rfl | exact Dig.one _ | (simp; done)) el_api_Digest (by first | rfl | exact Dig.size _ | (simp; done)) 2 rfl (by first | rfl | exact Dig.size _ | (simp; done)) ?_; clear hst; intro WS7 hst; simp only [List.set_cons_zero, List.set_cons_succ] at hst) | (refine L_storeM rfl rfl hst rfl (by rfl) (ev_tmp rfl) (by first | rfl | exact Dig.one _ | (simp; done)) el_api_Digest (by first | rfl | exact Dig.size _ | (simp; done)) 0 rfl (by first | exact of_decide_eq_true rfl | (simp; done)) ?_; clear hst; intro WS7 hst; simp only [List.set_cons_zero, List.set_cons_succ] at hst)  | (refine L_storeM rfl rfl hst rfl (by rfl) (ev_tmp rfl) (by first | rfl | exact Dig.one _ | (simp; done)) el_api_Digest (by first | rfl | exact Dig.size _ | (simp; done)) 1 rfl (by first | exact of_decide_eq_true rfl | (simp; done)) ?_; clear hst; intro WS7 hst; simp only [List.set_cons_zero, List.set_cons_succ] at hst)  | (refine L_storeM rfl rfl hst rfl (by rfl) (ev_tmp rfl) (by first | rfl | exact Dig.one _ | (simp; done)) el_api_Digest (by first | rfl | exact Dig.size _ | (simp; done)) 2 rfl (by first | exact of_decide_eq_true rfl | (simp; done)) ?_; clear hst; intro WS7 hst; simp only [List.set_cons_zero, List.set_cons_succ] at hst))
    | (first | (refine L_cutV (d := some 27) rfl rfl rfl (by rfl) Tryd.underlying22 el_api_Digest (by decide) hx 0 r _ (Or.inl ⟨rfl, rfl⟩) (Or.inr ⟨_, _, rfl, by first | exact ev_tmp rfl | (rw [ev_tmp rfl]; congr 1; omega)⟩) (Or.inl ⟨rfl, rfl⟩) (by omega) (by omega) (by omega) (by omega) ?_; intro A27 c27 hs27) | (refine L_cutO (d := some 27) rfl rfl hst rfl (by rfl) Tryd.underlying22 el_api_Digest 0 rfl (by first | rfl | omega) 0 r _ (Or.inl ⟨rfl, rfl⟩) (Or.inr ⟨_, _, rfl, by first | exact ev_tmp rfl | (rw [ev_tmp rfl]; congr 1; omega)⟩) (Or.inl ⟨rfl, rfl⟩) (by omega) (by omega) (by omega) (by omega) ?_; clear hst; intro A27 c27 hst; simp only [List.set_cons_zero, List.set_cons_succ] at hst) | (refine L_cutO (d := some 27) rfl rfl hst rfl (by rfl) Tryd.underlying22 el_api_Digest 1 rfl (by first | rfl | omega) 0 r _ (Or.inl ⟨rfl, rfl⟩) (Or.inr ⟨_, _, rfl, by first | exact ev_tmp rfl | (rw [ev_tmp rfl]; congr 1; omega)⟩) (Or.inl ⟨rfl, rfl⟩) (by omega) (by omega) (by omega) (by omega) ?_; clear hst; intro A27 c27 hst; simp only [List.set_cons_zero, List.set_cons_succ] at hst) | (refine L_cutO (d := some 27) rfl rfl hst rfl (by rfl) Tryd.underlying22 el_api_Digest 2 rfl (by first | rfl | omega) 0 r _ (Or.inl ⟨rfl, rfl⟩) (Or.inr ⟨_, _, rfl, by first | exact ev_tmp rfl | (rw [ev_tmp rfl]; congr 1; omega)⟩) (Or.inl ⟨rfl, rfl⟩) (by omega) (by omega) (by omega) (by omega) ?_; clear hst; intro A27 c27 hst; simp only [List.set_cons_zero, List.set_cons_succ] at hst) | (refine L_cutS (d := some 27) rfl rfl rfl (by rfl) Tryd.underlying22 el_api_Digest (by decide) (by first | exact hst.old (by decide) hx | assumption | exact hst.old (by decide) (by assumption) | exact hst.sl 0 rfl | exact hst.sl 1 rfl | exact hst.sl 2 rfl) 0 r _ (Or.inl ⟨rfl, rfl⟩) (Or.inr ⟨_, _, rfl, by first | exact ev_tmp rfl | (rw [ev_tmp rfl]; congr 1; omega)⟩) (Or.inl ⟨rfl, rfl⟩) (by omega) (by omega) (by omega) (by omega) ?_; intro A27 c27 hs27))
    | fail)
   (try clear hnew)
   refine wp_region_idx [(0, 0), (1, 0), (2, 0), (3, 0), (4, 0), (5, 0), (6, 0), (7, 0), (8, 2), (9, 2), (10, 2), (11, 1)] (by kernel_rfl) (by kernel_rfl) ?_
   replace hst := hst.drew
   refine idx_q rfl rfl ?_; go_wp2_with (first | (first | (refine L_loadA (d := some 38) rfl rfl rfl (by rfl) Tryd.underlying25 rfl el_api_Digest (by first | exact hst.get 0 rfl | exact hst.get 1 rfl | exact hst.get 2 rfl) (by first | rfl | exact Dig.size _ | (simp; done)) ?_) | (refine L_loadM (d := some 38) rfl rfl rfl (by rfl) Tryd.underlying25 rfl el_api_Digest (by first | assumption) (by first | rfl | exact Dig.size _ | (simp; done)) ?_)) | fail)
   refine idx_q rfl rfl ?_; go_wp2_with (first | (first | (refine L_loadA (d := some 39) rfl rfl rfl (by rfl) Tryd.underlying25 rfl el_api_Digest (by first | exact hst.get 0 rfl | exact hst.get 1 rfl | exact hst.get 2 rfl) (by first | rfl | exact Dig.size _ | (simp; done)) ?_) | (refine L_loadM (d := some 39) rfl rfl rfl (by rfl) Tryd.underlying25 rfl el_api_Digest (by first | assumption) (by first | rfl | exact Dig.size _ | (simp; done)) ?_)) | fail)
   refine idx_q rfl rfl ?_; go_wp2_with fail
   refine idx_q rfl rfl ?_; go_wp2_with fail
   refine idx_q rfl rfl ?_; go_wp2_with fail
   refine idx_q rfl rfl ?_; go_wp2_with fail
   refine idx_q rfl rfl ?_; go_wp2_with fail
   refine idx_q rfl rfl ?_; go_wp2_with fail
   refine idx_g rfl ?_; go_wp2_with fail; refine ⟨by first | exact Below.refl _ _ | exact hnew.below, ?_⟩
   refine idx_g rfl ?_; go_wp2_with (first | (go_at_call 34; (try clear hnew); refine (HI.out A27 c27 _ (by rw [← HC.out]; exact hst.old (by decide) hs27)).mono ?_; rintro e Wk10 ⟨rfl, hnew⟩; replace hst := hst.keep hnew) | (go_at_call 36; (try clear hnew); with_reducible refine (rnode_any _ _ _).mono ?_; rintro e Wk11 ⟨rfl, hnew⟩; replace hst := hst.keep hnew) | fail); refine ⟨by first | exact Below.refl _ _ | exact hnew.below, ?_⟩
   refine idx_g rfl ?_; go_wp2_with (first | (go_at_call 34; (try clear hnew); refine (HI.out A27 c27 _ (by rw [← HC.out]; exact hst.old (by decide) hs27)).mono ?_; rintro e Wk10 ⟨rfl, hnew⟩; replace hst := hst.keep hnew) | (go_at_call 36; (try clear hnew); with_reducible refine (rnode_any _ _ _).mono ?_; rintro e Wk11 ⟨rfl, hnew⟩; replace hst := hst.keep hnew) | fail); refine ⟨by first | exact Below.refl _ _ | exact hnew.below, ?_⟩
   refine idx_e rfl ?_; go_wp2_with (first | (refine wpl_at (.store 25 (.tmp 8) (.tmp 48)) rfl ?_; first | (refine L_storeA rfl rfl hst rfl (by rfl) (ev_tmp rfl) (by first | rfl | exact Dig.one _ | (simp; done)) el_api_Digest (by first | rfl | exact Dig.size _ | (simp; done)) 0 rfl (by first | rfl | exact Dig.size _ | (simp; done)) ?_; clear hst; intro WS11 hst; simp only [List.set_cons_zero, List.set_cons_succ] at hst) | (refine L_storeA rfl rfl hst rfl (by rfl) (ev_tmp rfl) (by first | rfl | exact Dig.one _ | (simp; done)) el_api_Digest (by first | rfl | exact Dig.size _ | (simp; done)) 1 rfl (by first | rfl | exact Dig.size _ | (simp; done)) ?_; clear hst; intro WS11 hst; simp only [List.set_cons_zero, List.set_cons_succ] at hst) | (refine L_storeA rfl rfl hst rfl (by rfl) (ev_tmp rfl) (by first | rfl | exact Dig.one _ | (simp; done)) el_api_Digest (by first | rfl | exact Dig.size _ | (simp; done)) 2 rfl (by first | rfl | exact Dig.size _ | (simp; done)) ?_; clear hst; intro WS11 hst; simp only [List.set_cons_zero, List.set_cons_succ] at hst) | (refine L_storeM rfl rfl hst rfl (by rfl) (ev_tmp rfl) (by first | rfl | exact Dig.one _ | (simp; done)) el_api_Digest (by first | rfl | exact Dig.size _ | (simp; done)) 0 rfl (by first | exact of_decide_eq_true rfl | (simp; done)) ?_; clear hst; intro WS11 hst; simp only [List.set_cons_zero, List.set_cons_succ] at hst)  | (refine L_storeM rfl rfl hst rfl (by rfl) (ev_tmp rfl) (by first | rfl | exact Dig.one _ | (simp; done)) el_api_Digest (by first | rfl | exact Dig.size _ | (simp; done)) 1 rfl (by first | exact of_decide_eq_true rfl | (simp; done)) ?_; clear hst; intro WS11 hst; simp only [List.set_cons_zero, List.set_cons_succ] at hst)  | (refine L_storeM rfl rfl hst rfl (by rfl) (ev_tmp rfl) (by first | rfl | exact Dig.one _ | (simp; done)) el_api_Digest (by first | rfl | exact Dig.size _ | (simp; done)) 2 rfl (by first | exact of_decide_eq_true rfl | (simp; done)) ?_; clear hst; intro WS11 hst; simp only [List.set_cons_zero, List.set_cons_succ] at hst)) | fail)
   refine idx_nil ?_
   go_wp2_with fail
   refine bp_cell rfl rfl rfl (hst.get 1 rfl) Tryd.underlying25 rfl el_api_Digest (by first | rfl | exact Dig.size _ | (simp; done)) ?_
   exact ⟨rfl, hst.forget⟩
end Go.Proofs.YtfpppmamkmaneaaDoor

set_option maxRecDepth 20000
set_option linter.unusedSimpArgs false
set_option linter.unusedVariables false
namespace Go.Proofs.YtfpppmamkmaneaaDoor
open Go.RowKit
set_option maxHeartbeats 2000000 in
theorem rroot_any : ∀ (n : Nat) (ls : List Dig) (A : Option Addr) (c : Nat) (w : World), SlR w A n c 32 (digsL ls) → n ≤ 256 →
  Calls Tryd.prog 28 #[.slice A n c] w fun e w' => e = .returned (rootN ls).v ∧ St w w' [] := by
 intro n
 induction n using Nat.strongRecOn with
 | ind n ih =>
 intro ls A c w hx hn
 have hst := St.refl w
 have hl : ls.length = n := by have := hx.1; rw [length_digsL] at this; omega
 have hcap := hx.2.1
 by_cases h0 : n = 0
 ·subst h0
  obtain rfl : ls = [] := List.eq_nil_of_length_eq_zero hl
  go_enter Tryd.func28, Tryd.ntmps28
  go_wp2_with (first
   | (go_at_call 64; (try clear hnew); refine (rsum_any [] none 0 0 _ (SlR.nil_ _ 1) (by decide)).mono ?_; rintro e Wk1 ⟨rfl, hnew⟩; replace hst := hst.keep hnew)
   | (refine L_allocA (d := some 2) rfl rfl rfl el_api_Digest ?_; (try clear hnew); intro g2 W2 hnew; replace hst := hst.trans hnew; simp only [List.cons_append, List.nil_append] at hst)
   | (refine wpl_at (.store 25 (.tmp 2) (.tmp 7)) rfl ?_; first | (refine L_storeA rfl rfl hst rfl (by rfl) (ev_tmp rfl) (by first | rfl | exact Dig.one _ | (simp; done)) el_api_Digest (by first | rfl | exact Dig.size _ | (simp; done)) 0 rfl (by first | rfl | exact Dig.size _ | (simp; done)) ?_; clear hst; intro WS1 hst; simp only [List.set_cons_zero, List.set_cons_succ] at hst) | (refine L_storeA rfl rfl hst rfl (by rfl) (ev_tmp rfl) (by first | rfl | exact Dig.one _ | (simp; done)) el_api_Digest (by first | rfl | exact Dig.size _ | (simp; done)) 1 rfl (by first | rfl | exact Dig.size _ | (simp; done)) ?_; clear hst; intro WS1 hst; simp only [List.set_cons_zero, List.set_cons_succ] at hst) | (refine L_storeA rfl rfl hst rfl (by rfl) (ev_tmp rfl) (by first | rfl | exact Dig.one _ | (simp; done)) el_api_Digest (by first | rfl | exact Dig.size _ | (simp; done)) 2 rfl (by first | rfl | exact Dig.size _ | (simp; done)) ?_; clear hst; intro WS1 hst; simp only [List.set_cons_zero, List.set_cons_succ] at hst) | (refine L_storeA rfl rfl hst rfl (by rfl) (ev_tmp rfl) (by first | rfl | exact Dig.one _ | (simp; done)) el_api_Digest (by first | rfl | exact Dig.size _ | (simp; done)) 3 rfl (by first | rfl | exact Dig.size _ | (simp; done)) ?_; clear hst; intro WS1 hst; simp only [List.set_cons_zero, List.set_cons_succ] at hst) | (refine L_storeA rfl rfl hst rfl (by rfl) (ev_tmp rfl) (by first | rfl | exact Dig.one _ | (simp; done)) el_api_Digest (by first | rfl | exact Dig.size _ | (simp; done)) 4 rfl (by first | rfl | exact Dig.size _ | (simp; done)) ?_; clear hst; intro WS1 hst; simp only [List.set_cons_zero, List.set_cons_succ] at hst) | (refine L_storeA rfl rfl hst rfl (by rfl) (ev_tmp rfl) (by first | rfl | exact Dig.one _ | (simp; done)) el_api_Digest (by first | rfl | exact Dig.size _ | (simp; done)) 5 rfl (by first | rfl | exact Dig.size _ | (simp; done)) ?_; clear hst; intro WS1 hst; simp only [List.set_cons_zero, List.set_cons_succ] at hst) | (refine L_storeM rfl rfl hst rfl (by rfl) (ev_tmp rfl) (by first | rfl | exact Dig.one _ | (simp; done)) el_api_Digest (by first | rfl | exact Dig.size _ | (simp; done)) 0 rfl (by first | exact of_decide_eq_true rfl | (simp; done)) ?_; clear hst; intro WS1 hst; simp only [List.set_cons_zero, List.set_cons_succ] at hst)  | (refine L_storeM rfl rfl hst rfl (by rfl) (ev_tmp rfl) (by first | rfl | exact Dig.one _ | (simp; done)) el_api_Digest (by first | rfl | exact Dig.size _ | (simp; done)) 1 rfl (by first | exact of_decide_eq_true rfl | (simp; done)) ?_; clear hst; intro WS1 hst; simp only [List.set_cons_zero, List.set_cons_succ] at hst)  | (refine L_storeM rfl rfl hst rfl (by rfl) (ev_tmp rfl) (by first | rfl | exact Dig.one _ | (simp; done)) el_api_Digest (by first | rfl | exact Dig.size _ | (simp; done)) 2 rfl (by first | exact of_decide_eq_true rfl | (simp; done)) ?_; clear hst; intro WS1 hst; simp only [List.set_cons_zero, List.set_cons_succ] at hst)  | (refine L_storeM rfl rfl hst rfl (by rfl) (ev_tmp rfl) (by first | rfl | exact Dig.one _ | (simp; done)) el_api_Digest (by first | rfl | exact Dig.size _ | (simp; done)) 3 rfl (by first | exact of_decide_eq_true rfl | (simp; done)) ?_; clear hst; intro WS1 hst; simp only [List.set_cons_zero, List.set_cons_succ] at hst)  | (refine L_storeM rfl rfl hst rfl (by rfl) (ev_tmp rfl) (by first | rfl | exact Dig.one _ | (simp; done)) el_api_Digest (by first | rfl | exact Dig.size _ | (simp; done)) 4 rfl (by first | exact of_decide_eq_true rfl | (simp; done)) ?_; clear hst; intro WS1 hst; simp only [List.set_cons_zero, List.set_cons_succ] at hst)  | (refine L_storeM rfl rfl hst rfl (by rfl) (ev_tmp rfl) (by first | rfl | exact Dig.one _ | (simp; done)) el_api_Digest (by first | rfl | exact Dig.size _ | (simp; done)) 5 rfl (by first | exact of_decide_eq_true rfl | (simp; done)) ?_; clear hst; intro WS1 hst; simp only [List.set_cons_zero, List.set_cons_succ] at hst))
   | fail)
  rw [rootN_nil]
  refine bp_cell rfl rfl rfl (hst.get 0 rfl) Tryd.underlying25 rfl el_api_Digest (by first | rfl | exact Dig.size _ | (simp; done)) ?_
  exact ⟨rfl, hst.forget⟩
 ·by_cases h1 : n = 1
  ·subst h1
   obtain ⟨d, rfl⟩ : ∃ d, ls = [d] := by
    match ls, hl with
    | [d], _ => exact ⟨d, rfl⟩
   have HL := Lib.hid (show ((digsL [d]).drop ((0 : Int).toNat * 32)).take 32 = d.arr.toList by rw [digsL_single]; exact List.take_of_length_le (by simp [Dig.size]))
   go_enter Tryd.func28, Tryd.ntmps28
   go_wp2_with (first
    | (refine L_loadM (d := some 13) rfl rfl rfl (by rfl) Tryd.underlying25 rfl el_api_Digest (cs := d.arr) (by rw [← HL.out]; exact hr12) (Dig.size _) ?_)
    | (refine L_allocA (d := some 2) rfl rfl rfl el_api_Digest ?_; (try clear hnew); intro g2 W2 hnew; replace hst := hst.trans hnew; simp only [List.cons_append, List.nil_append] at hst)
    | (refine L_idxS (d := some 12) rfl rfl rfl (by rfl) (by rfl) Tryd.underlying22 el_api_Digest (by first | assumption | exact hst.sl 0 rfl | exact hst.sl 1 rfl | exact hst.sl 2 rfl | exact hst.sl 3 rfl | exact hst.sl 4 rfl | exact hst.sl 5 rfl | exact hst.old (by decide) (by assumption)) (by omega) (by omega) ?_; intro o12 p12 ha12 hr12; (first | subst ha12 | (obtain ⟨h1, h2⟩ := some_addr ha12; subst h1; subst h2; clear ha12) | skip))
    | (first | (refine L_loadA (d := some 13) rfl rfl rfl (by rfl) Tryd.underlying25 rfl el_api_Digest (by first | exact hst.get 0 rfl | exact hst.get 1 rfl | exact hst.get 2 rfl | exact hst.get 3 rfl | exact hst.get 4 rfl | exact hst.get 5 rfl) (by first | rfl | exact Dig.size _ | (simp; done)) ?_) | (refine L_loadM (d := some 13) rfl rfl rfl (by rfl) Tryd.underlying25 rfl el_api_Digest (by first | assumption) (by first | rfl | exact Dig.size _ | (simp; done)) ?_))
    | (refine wpl_at (.store 25 (.tmp 2) (.tmp 13)) rfl ?_; first | (refine L_storeA rfl rfl hst rfl (by rfl) (ev_tmp rfl) (by first | rfl | exact Dig.one _ | (simp; done)) el_api_Digest (by first | rfl | exact Dig.size _ | (simp; done)) 0 rfl (by first | rfl | exact Dig.size _ | (simp; done)) ?_; clear hst; intro WS3 hst; simp only [List.set_cons_zero, List.set_cons_succ] at hst) | (refine L_storeA rfl rfl hst rfl (by rfl) (ev_tmp rfl) (by first | rfl | exact Dig.one _ | (simp; done)) el_api_Digest (by first | rfl | exact Dig.size _ | (simp; done)) 1 rfl (by first | rfl | exact Dig.size _ | (simp; done)) ?_; clear hst; intro WS3 hst; simp only [List.set_cons_zero, List.set_cons_succ] at hst) | (refine L_storeA rfl rfl hst rfl (by rfl) (ev_tmp rfl) (by first | rfl | exact Dig.one _ | (simp; done)) el_api_Digest (by first | rfl | exact Dig.size _ | (simp; done)) 2 rfl (by first | rfl | exact Dig.size _ | (simp; done)) ?_; clear hst; intro WS3 hst; simp only [List.set_cons_zero, List.set_cons_succ] at hst) | (refine L_storeA rfl rfl hst rfl (by rfl) (ev_tmp rfl) (by first | rfl | exact Dig.one _ | (simp; done)) el_api_Digest (by first | rfl | exact Dig.size _ | (simp; done)) 3 rfl (by first | rfl | exact Dig.size _ | (simp; done)) ?_; clear hst; intro WS3 hst; simp only [List.set_cons_zero, List.set_cons_succ] at hst) | (refine L_storeA rfl rfl hst rfl (by rfl) (ev_tmp rfl) (by first | rfl | exact Dig.one _ | (simp; done)) el_api_Digest (by first | rfl | exact Dig.size _ | (simp; done)) 4 rfl (by first | rfl | exact Dig.size _ | (simp; done)) ?_; clear hst; intro WS3 hst; simp only [List.set_cons_zero, List.set_cons_succ] at hst) | (refine L_storeA rfl rfl hst rfl (by rfl) (ev_tmp rfl) (by first | rfl | exact Dig.one _ | (simp; done)) el_api_Digest (by first | rfl | exact Dig.size _ | (simp; done)) 5 rfl (by first | rfl | exact Dig.size _ | (simp; done)) ?_; clear hst; intro WS3 hst; simp only [List.set_cons_zero, List.set_cons_succ] at hst) | (refine L_storeM rfl rfl hst rfl (by rfl) (ev_tmp rfl) (by first | rfl | exact Dig.one _ | (simp; done)) el_api_Digest (by first | rfl | exact Dig.size _ | (simp; done)) 0 rfl (by first | exact of_decide_eq_true rfl | (simp; done)) ?_; clear hst; intro WS3 hst; simp only [List.set_cons_zero, List.set_cons_succ] at hst)  | (refine L_storeM rfl rfl hst rfl (by rfl) (ev_tmp rfl) (by first | rfl | exact Dig.one _ | (simp; done)) el_api_Digest (by first | rfl | exact Dig.size _ | (simp; done)) 1 rfl (by first | exact of_decide_eq_true rfl | (simp; done)) ?_; clear hst; intro WS3 hst; simp only [List.set_cons_zero, List.set_cons_succ] at hst)  | (refine L_storeM rfl rfl hst rfl (by rfl) (ev_tmp rfl) (by first | rfl | exact Dig.one _ | (simp; done)) el_api_Digest (by first | rfl | exact Dig.size _ | (simp; done)) 2 rfl (by first | exact of_decide_eq_true rfl | (simp; done)) ?_; clear hst; intro WS3 hst; simp only [List.set_cons_zero, List.set_cons_succ] at hst)  | (refine L_storeM rfl rfl hst rfl (by rfl) (ev_tmp rfl) (by first | rfl | exact Dig.one _ | (simp; done)) el_api_Digest (by first | rfl | exact Dig.size _ | (simp; done)) 3 rfl (by first | exact of_decide_eq_true rfl | (simp; done)) ?_; clear hst; intro WS3 hst; simp only [List.set_cons_zero, List.set_cons_succ] at hst)  | (refine L_storeM rfl rfl hst rfl (by rfl) (ev_tmp rfl) (by first | rfl | exact Dig.one _ | (simp; done)) el_api_Digest (by first | rfl | exact Dig.size _ | (simp; done)) 4 rfl (by first | exact of_decide_eq_true rfl | (simp; done)) ?_; clear hst; intro WS3 hst; simp only [List.set_cons_zero, List.set_cons_succ] at hst)  | (refine L_storeM rfl rfl hst rfl (by rfl) (ev_tmp rfl) (by first | rfl | exact Dig.one _ | (simp; done)) el_api_Digest (by first | rfl | exact Dig.size _ | (simp; done)) 5 rfl (by first | exact of_decide_eq_true rfl | (simp; done)) ?_; clear hst; intro WS3 hst; simp only [List.set_cons_zero, List.set_cons_succ] at hst))
    | fail)
   rw [rootN_one]
   refine bp_cell rfl rfl rfl (hst.get 0 rfl) Tryd.underlying25 rfl el_api_Digest (by first | rfl | exact Dig.size _ | (simp; done)) ?_
   exact ⟨rfl, hst.forget⟩
  ·have hlt := halfN_lt n (by omega)
   have hps := halfN_pos n
   have HN := Lib.hid (show nodeN (rootN (ls.take (halfN n))) (rootN (ls.drop (halfN n))) = rootN ls by rw [rootN_more ls (by omega), hl])
   have H1 := Lib.hid (show ((digsL ls).drop (0 * 32)).take ((halfN n - 0) * 32) = digsL (ls.take (halfN n)) by rw [digsL_cut]; rfl)
   have H2 := Lib.hid (show ((digsL ls).drop (halfN n * 32)).take ((n - halfN n) * 32) = digsL (ls.drop (halfN n)) by rw [digsL_cut, List.take_of_length_le (by rw [List.length_drop]; omega)])
   have h0' : ¬ (n : Int) = 0 := by omega
   have h1' : ¬ (n : Int) = 1 := by omega
   have HF := Lib.hid (fun w => rhalf_any n (by omega) (by omega) w)
   generalize halfN n = k at *
   go_enter Tryd.func28, Tryd.ntmps28
   go_wp2_with (first
    | (go_at_call 55; (try clear hnew); refine (HF.out _).mono ?_; rintro e Wk2 ⟨rfl, hnew⟩; replace hst := hst.keep hnew)
    | (refine L_allocA (d := some 2) rfl rfl rfl el_api_Digest ?_; (try clear hnew); intro g2 W2 hnew; replace hst := hst.trans hnew; simp only [List.cons_append, List.nil_append] at hst)
    | fail)
   (try clear hnew)
   clear h0' h1'
   refine wp_region_idx [(0, 0), (1, 0), (2, 0), (4, 0), (5, 0), (6, 0), (3, 2), (7, 2), (8, 2), (9, 1)] (by kernel_rfl) (by kernel_rfl) ?_
   replace hst := hst.drew
   refine idx_q rfl rfl ?_; go_wp2_with fail
   refine idx_q rfl rfl ?_; go_wp2_with fail
   refine idx_q rfl rfl ?_; go_wp2_with (first | (first | (refine L_cutV (d := some 19) rfl rfl rfl (by rfl) Tryd.underlying22 el_api_Digest (by decide) hx 0 k _ (Or.inl ⟨rfl, rfl⟩) (Or.inr ⟨_, _, rfl, by first | exact ev_tmp rfl | (rw [ev_tmp rfl]; congr 1; omega)⟩) (Or.inl ⟨rfl, rfl⟩) (by omega) (by omega) (by omega) (by omega) ?_; intro A19 c19 hs19) | (refine L_cutO (d := some 19) rfl rfl hst rfl (by rfl) Tryd.underlying22 el_api_Digest 0 rfl (by first | rfl | omega) 0 k _ (Or.inl ⟨rfl, rfl⟩) (Or.inr ⟨_, _, rfl, by first | exact ev_tmp rfl | (rw [ev_tmp rfl]; congr 1; omega)⟩) (Or.inl ⟨rfl, rfl⟩) (by omega) (by omega) (by omega) (by omega) ?_; clear hst; intro A19 c19 hst; simp only [List.set_cons_zero, List.set_cons_succ] at hst) | (refine L_cutO (d := some 19) rfl rfl hst rfl (by rfl) Tryd.underlying22 el_api_Digest 1 rfl (by first | rfl | omega) 0 k _ (Or.inl ⟨rfl, rfl⟩) (Or.inr ⟨_, _, rfl, by first | exact ev_tmp rfl | (rw [ev_tmp rfl]; congr 1; omega)⟩) (Or.inl ⟨rfl, rfl⟩) (by omega) (by omega) (by omega) (by omega) ?_; clear hst; intro A19 c19 hst; simp only [List.set_cons_zero, List.set_cons_succ] at hst) | (refine L_cutO (d := some 19) rfl rfl hst rfl (by rfl) Tryd.underlying22 el_api_Digest 2 rfl (by first | rfl | omega) 0 k _ (Or.inl ⟨rfl, rfl⟩) (Or.inr ⟨_, _, rfl, by first | exact ev_tmp rfl | (rw [ev_tmp rfl]; congr 1; omega)⟩) (Or.inl ⟨rfl, rfl⟩) (by omega) (by omega) (by omega) (by omega) ?_; clear hst; intro A19 c19 hst; simp only [List.set_cons_zero, List.set_cons_succ] at hst) | (refine L_cutS (d := some 19) rfl rfl rfl (by rfl) Tryd.underlying22 el_api_Digest (by decide) (by first | exact hst.old (by decide) hx | assumption | exact hst.old (by decide) (by assumption) | exact hst.sl 0 rfl | exact hst.sl 1 rfl | exact hst.sl 2 rfl) 0 k _ (Or.inl ⟨rfl, rfl⟩) (Or.inr ⟨_, _, rfl, by first | exact ev_tmp rfl | (rw [ev_tmp rfl]; congr 1; omega)⟩) (Or.inl ⟨rfl, rfl⟩) (by omega) (by omega) (by omega) (by omega) ?_; intro A19 c19 hs19)) | fail)
   refine idx_q rfl rfl ?_; go_wp2_with fail
   refine idx_q rfl rfl ?_; go_wp2_with fail
   refine idx_q rfl rfl ?_; go_wp2_with (first | (first | (refine L_cutV (d := some 23) rfl rfl rfl (by rfl) Tryd.underlying22 el_api_Digest (by decide) hx k n _ (Or.inr ⟨_, _, rfl, by first | exact ev_tmp rfl | (rw [ev_tmp rfl]; congr 1; omega)⟩) (Or.inl ⟨rfl, rfl, rfl⟩) (Or.inl ⟨rfl, rfl⟩) (by omega) (by omega) (by omega) (by omega) ?_; intro A23 c23 hs23) | (refine L_cutO (d := some 23) rfl rfl hst rfl (by rfl) Tryd.underlying22 el_api_Digest 0 rfl (by first | rfl | omega) k n _ (Or.inr ⟨_, _, rfl, by first | exact ev_tmp rfl | (rw [ev_tmp rfl]; congr 1; omega)⟩) (Or.inl ⟨rfl, rfl, rfl⟩) (Or.inl ⟨rfl, rfl⟩) (by omega) (by omega) (by omega) (by omega) ?_; clear hst; intro A23 c23 hst; simp only [List.set_cons_zero, List.set_cons_succ] at hst) | (refine L_cutO (d := some 23) rfl rfl hst rfl (by rfl) Tryd.underlying22 el_api_Digest 1 rfl (by first | rfl | omega) k n _ (Or.inr ⟨_, _, rfl, by first | exact ev_tmp rfl | (rw [ev_tmp rfl]; congr 1; omega)⟩) (Or.inl ⟨rfl, rfl, rfl⟩) (Or.inl ⟨rfl, rfl⟩) (by omega) (by omega) (by omega) (by omega) ?_; clear hst; intro A23 c23 hst; simp only [List.set_cons_zero, List.set_cons_succ] at hst) | (refine L_cutO (d := some 23) rfl rfl hst rfl (by rfl) Tryd.underlying22 el_api_Digest 2 rfl (by first | rfl | omega) k n _ (Or.inr ⟨_, _, rfl, by first | exact ev_tmp rfl | (rw [ev_tmp rfl]; congr 1; omega)⟩) (Or.inl ⟨rfl, rfl, rfl⟩) (Or.inl ⟨rfl, rfl⟩) (by omega) (by omega) (by omega) (by omega) ?_; clear hst; intro A23 c23 hst; simp only [List.set_cons_zero, List.set_cons_succ] at hst) | (refine L_cutS (d := some 23) rfl rfl rfl (by rfl) Tryd.underlying22 el_api_Digest (by decide) (by first | exact hst.old (by decide) hx | assumption | exact hst.old (by decide) (by assumption) | exact hst.sl 0 rfl | exact hst.sl 1 rfl | exact hst.sl 2 rfl) k n _ (Or.inr ⟨_, _, rfl, by first | exact ev_tmp rfl | (rw [ev_tmp rfl]; congr 1; omega)⟩) (Or.inl ⟨rfl, rfl, rfl⟩) (Or.inl ⟨rfl, rfl⟩) (by omega) (by omega) (by omega) (by omega) ?_; intro A23 c23 hs23)) | fail)
   refine idx_g rfl ?_; go_wp2_with (first | (go_at_call_of 28 (Value.slice A19 k c19); (try clear hnew); refine (ih k hlt (ls.take k) A19 c19 _ (by rw [← H1.out]; exact hst.old (by decide) hs19) (by omega)).mono ?_; rintro e W20 ⟨rfl, hnew⟩; replace hst := hst.keep hnew) | (go_at_call_of 28 (Value.slice A23 (n - k) c23); (try clear hnew); refine (ih (n - k) (by omega) (ls.drop k) A23 c23 _ (by rw [← H2.out]; exact hst.old (by decide) hs23) (by omega)).mono ?_; rintro e W24 ⟨rfl, hnew⟩; replace hst := hst.keep hnew) | (go_at_call 36; (try clear hnew); with_reducible refine (rnode_any _ _ _).mono ?_; rintro e Wk3 ⟨rfl, hnew⟩; replace hst := hst.keep hnew) | fail); refine ⟨by first | exact Below.refl _ _ | exact hnew.below, ?_⟩
   refine idx_g rfl ?_; go_wp2_with (first | (go_at_call_of 28 (Value.slice A19 k c19); (try clear hnew); refine (ih k hlt (ls.take k) A19 c19 _ (by rw [← H1.out]; exact hst.old (by decide) hs19) (by omega)).mono ?_; rintro e W20 ⟨rfl, hnew⟩; replace hst := hst.keep hnew) | (go_at_call_of 28 (Value.slice A23 (n - k) c23); (try clear hnew); refine (ih (n - k) (by omega) (ls.drop k) A23 c23 _ (by rw [← H2.out]; exact hst.old (by decide) hs23) (by omega)).mono ?_; rintro e W24 ⟨rfl, hnew⟩; replace hst := hst.keep hnew) | (go_at_call 36; (try clear hnew); with_reducible refine (rnode_any _ _ _).mono ?_; rintro e Wk3 ⟨rfl, hnew⟩; replace hst := hst.keep hnew) | fail); refine ⟨by first | exact Below.refl _ _ | exact hnew.below, ?_⟩
   refine idx_g rfl ?_; go_wp2_with (first | (go_at_call_of 28 (Value.slice A19 k c19); (try clear hnew); refine (ih k hlt (ls.take k) A19 c19 _ (by rw [← H1.out]; exact hst.old (by decide) hs19) (by omega)).mono ?_; rintro e W20 ⟨rfl, hnew⟩; replace hst := hst.keep hnew) | (go_at_call_of 28 (Value.slice A23 (n - k) c23); (try clear hnew); refine (ih (n - k) (by omega) (ls.drop k) A23 c23 _ (by rw [← H2.out]; exact hst.old (by decide) hs23) (by omega)).mono ?_; rintro e W24 ⟨rfl, hnew⟩; replace hst := hst.keep hnew) | (go_at_call 36; (try clear hnew); with_reducible refine (rnode_any _ _ _).mono ?_; rintro e Wk3 ⟨rfl, hnew⟩; replace hst := hst.keep hnew) | fail); refine ⟨by first | exact Below.refl _ _ | exact hnew.below, ?_⟩
   refine idx_e rfl ?_; go_wp2_with (first | (refine wpl_at (.store 25 (.tmp 2) (.tmp 25)) rfl ?_; first | (refine L_storeA rfl rfl hst rfl (by rfl) (ev_tmp rfl) (by first | rfl | exact Dig.one _ | (simp; done)) el_api_Digest (by first | rfl | exact Dig.size _ | (simp; done)) 0 rfl (by first | rfl | exact Dig.size _ | (simp; done)) ?_; clear hst; intro WS9 hst; simp only [List.set_cons_zero, List.set_cons_succ] at hst) | (refine L_storeA rfl rfl hst rfl (by rfl) (ev_tmp rfl) (by first | rfl | exact Dig.one _ | (simp; done)) el_api_Digest (by first | rfl | exact Dig.size _ | (simp; done)) 1 rfl (by first | rfl | exact Dig.size _ | (simp; done)) ?_; clear hst; intro WS9 hst; simp only [List.set_cons_zero, List.set_cons_succ] at hst) | (refine L_storeA rfl rfl hst rfl (by rfl) (ev_tmp rfl) (by first | rfl | exact Dig.one _ | (simp; done)) el_api_Digest (by first | rfl | exact Dig.size _ | (simp; done)) 2 rfl (by first | rfl | exact Dig.size _ | (simp; done)) ?_; clear hst; intro WS9 hst; simp only [List.set_cons_zero, List.set_cons_succ] at hst) | (refine L_storeM rfl rfl hst rfl (by rfl) (ev_tmp rfl) (by first | rfl | exact Dig.one _ | (simp; done)) el_api_Digest (by first | rfl | exact Dig.size _ | (simp; done)) 0 rfl (by first | exact of_decide_eq_true rfl | (simp; done)) ?_; clear hst; intro WS9 hst; simp only [List.set_cons_zero, List.set_cons_succ] at hst)  | (refine L_storeM rfl rfl hst rfl (by rfl) (ev_tmp rfl) (by first | rfl | exact Dig.one _ | (simp; done)) el_api_Digest (by first | rfl | exact Dig.size _ | (simp; done)) 1 rfl (by first | exact of_decide_eq_true rfl | (simp; done)) ?_; clear hst; intro WS9 hst; simp only [List.set_cons_zero, List.set_cons_succ] at hst)  | (refine L_storeM rfl rfl hst rfl (by rfl) (ev_tmp rfl) (by first | rfl | exact Dig.one _ | (simp; done)) el_api_Digest (by first | rfl | exact Dig.size _ | (simp; done)) 2 rfl (by first | exact of_decide_eq_true rfl | (simp; done)) ?_; clear hst; intro WS9 hst; simp only [List.set_cons_zero, List.set_cons_succ] at hst)) | fail)
   refine idx_nil ?_
   rw [HN.out] at hst
   go_wp2_with fail
   refine bp_cell rfl rfl rfl (hst.get 0 rfl) Tryd.underlying25 rfl el_api_Digest (by first | rfl | exact Dig.size _ | (simp; done)) ?_
   exact ⟨rfl, hst.forget⟩
end Go.Proofs.YtfpppmamkmaneaaDoor

set_option maxRecDepth 20000
set_option linter.unusedSimpArgs false
set_option linter.unusedVariables false
namespace Go.Proofs.YtfpppmamkmaneaaDoor
open Go.RowKit
theorem dig_oneR (d : Dig) : ∀ u ∈ d.arr.toList, u.oneCell' = true := by
 rw [Dig.toList]
 exact oneCell_bytes
set_option maxHeartbeats 4000000 in
theorem rpath_any : ∀ (n : Nat) (ls : List Dig) (A : Option Addr) (c i : Nat) (w : World), SlR w A n c 32 (digsL ls) → i < n → n ≤ 256 →
  Calls Tryd.prog 32 #[.slice A n c, .int .i64 (i : Int)] w fun e w' => ∃ O oc, e = .returned (.slice O (longN i n) oc) ∧ St w w' [.row O (longN i n) oc 25 32 (digsL (pathN ls i))] := by
 intro n
 induction n using Nat.strongRecOn with
 | ind n ih =>
 intro ls A c i w hx hin hn
 have hst := St.refl w
 have hl : ls.length = n := by have := hx.1; rw [length_digsL] at this; omega
 have hcap := hx.2.1
 by_cases h1 : n = 1
 ·subst h1
  rw [longN_one i (by omega), pathN_one i (by omega)]
  go_enter Tryd.func32, Tryd.ntmps32
  go_wp2_with (first
   | fail)
  go_ret
  exact ⟨_, _, rfl, hst.nilRow 25 32⟩
 ·have hlt := halfN_lt n (by omega)
  have hps := halfN_pos n
  have h1' : ¬ (n : Int) = 1 := by omega
  have HF := Lib.hid (fun w => rhalf_any n (by omega) (by omega) w)
  have H1 := Lib.hid (show ((digsL ls).drop (0 * 32)).take ((halfN n - 0) * 32) = digsL (ls.take (halfN n)) by rw [digsL_cut]; rfl)
  have H2 := Lib.hid (show ((digsL ls).drop (halfN n * 32)).take ((n - halfN n) * 32) = digsL (ls.drop (halfN n)) by rw [digsL_cut, List.take_of_length_le (by rw [List.length_drop]; omega)])
  by_cases hk : i < halfN n
  ·have hle := longN_le (halfN n) i
   rw [longN_left (by omega) hk]
   have HI := Lib.hid (fun A c w hs => ih (halfN n) hlt (ls.take (halfN n)) A c i w hs hk (by omega))
   have HB := Lib.hid (show digsL (pathN (ls.take (halfN n)) i) ++ (rootN (ls.drop (halfN n))).arr.toList = digsL (pathN ls i) by
    rw [pathN_left (ls := ls) (by omega) (by rw [hl]; exact hk), hl, digsL_append, digsL_single, Dig.toList])
   clear ih hl
   generalize longN i (halfN n) = r at *
   generalize halfN n = k at *
   go_enter Tryd.func32, Tryd.ntmps32
   go_wp2_with (first
    | (go_at_call 55; (try clear hnew); refine (HF.out _).mono ?_; rintro e Wk1 ⟨rfl, hnew⟩; replace hst := hst.keep hnew)
    | fail)
   (try clear hnew)
   refine wp_region_idxT [(0, 0), (1, 0), (2, 0), (3, 0), (5, 0), (6, 0), (7, 0), (4, 2), (8, 2), (9, 2), (10, 1), (11, 2)] (by kernel_rfl) (by kernel_rfl) ?_
   replace hst := hst.drew
   refine idx_q rfl rfl ?_; go_wp2_with fail
   refine idx_q rfl rfl ?_; go_wp2_with fail
   refine idx_q rfl rfl ?_; go_wp2_with (first | (first | (refine L_cutV (d := some 17) rfl rfl rfl (by rfl) Tryd.underlying22 el_api_Digest (by decide) hx 0 k _ (Or.inl ⟨rfl, rfl⟩) (Or.inr ⟨_, _, rfl, by first | exact ev_tmp rfl | (rw [ev_tmp rfl]; congr 1; omega)⟩) (Or.inl ⟨rfl, rfl⟩) (by omega) (by omega) (by omega) (by omega) ?_; intro A17 c17 hs17) | (refine L_cutO (d := some 17) rfl rfl hst rfl (by rfl) Tryd.underlying22 el_api_Digest 0 rfl (by first | rfl | omega) 0 k _ (Or.inl ⟨rfl, rfl⟩) (Or.inr ⟨_, _, rfl, by first | exact ev_tmp rfl | (rw [ev_tmp rfl]; congr 1; omega)⟩) (Or.inl ⟨rfl, rfl⟩) (by omega) (by omega) (by omega) (by omega) ?_; clear hst; intro A17 c17 hst; simp only [List.set_cons_zero, List.set_cons_succ] at hst) | (refine L_cutO (d := some 17) rfl rfl hst rfl (by rfl) Tryd.underlying22 el_api_Digest 1 rfl (by first | rfl | omega) 0 k _ (Or.inl ⟨rfl, rfl⟩) (Or.inr ⟨_, _, rfl, by first | exact ev_tmp rfl | (rw [ev_tmp rfl]; congr 1; omega)⟩) (Or.inl ⟨rfl, rfl⟩) (by omega) (by omega) (by omega) (by omega) ?_; clear hst; intro A17 c17 hst; simp only [List.set_cons_zero, List.set_cons_succ] at hst) | (refine L_cutO (d := some 17) rfl rfl hst rfl (by rfl) Tryd.underlying22 el_api_Digest 2 rfl (by first | rfl | omega) 0 k _ (Or.inl ⟨rfl, rfl⟩) (Or.inr ⟨_, _, rfl, by first | exact ev_tmp rfl | (rw [ev_tmp rfl]; congr 1; omega)⟩) (Or.inl ⟨rfl, rfl⟩) (by omega) (by omega) (by omega) (by omega) ?_; clear hst; intro A17 c17 hst; simp only [List.set_cons_zero, List.set_cons_succ] at hst) | (refine L_cutS (d := some 17) rfl rfl rfl (by rfl) Tryd.underlying22 el_api_Digest (by decide) (by first | assumption | exact hst.old (by decide) (by assumption) | exact hst.sl 0 rfl | exact hst.sl 1 rfl | exact hst.sl 2 rfl) 0 k _ (Or.inl ⟨rfl, rfl⟩) (Or.inr ⟨_, _, rfl, by first | exact ev_tmp rfl | (rw [ev_tmp rfl]; congr 1; omega)⟩) (Or.inl ⟨rfl, rfl⟩) (by omega) (by omega) (by omega) (by omega) ?_; intro A17 c17 hs17)) | fail)
   refine idx_q rfl rfl ?_; go_wp2_with fail
   refine idx_q rfl rfl ?_; go_wp2_with fail
   refine idx_q rfl rfl ?_; go_wp2_with fail
   refine idx_q rfl rfl ?_; go_wp2_with (first | (first | (refine L_cutV (d := some 22) rfl rfl rfl (by rfl) Tryd.underlying22 el_api_Digest (by decide) hx k n _ (Or.inr ⟨_, _, rfl, by first | exact ev_tmp rfl | (rw [ev_tmp rfl]; congr 1; omega)⟩) (Or.inl ⟨rfl, rfl, rfl⟩) (Or.inl ⟨rfl, rfl⟩) (by omega) (by omega) (by omega) (by omega) ?_; intro A22 c22 hs22) | (refine L_cutO (d := some 22) rfl rfl hst rfl (by rfl) Tryd.underlying22 el_api_Digest 0 rfl (by first | rfl | omega) k n _ (Or.inr ⟨_, _, rfl, by first | exact ev_tmp rfl | (rw [ev_tmp rfl]; congr 1; omega)⟩) (Or.inl ⟨rfl, rfl, rfl⟩) (Or.inl ⟨rfl, rfl⟩) (by omega) (by omega) (by omega) (by omega) ?_; clear hst; intro A22 c22 hst; simp only [List.set_cons_zero, List.set_cons_succ] at hst) | (refine L_cutO (d := some 22) rfl rfl hst rfl (by rfl) Tryd.underlying22 el_api_Digest 1 rfl (by first | rfl | omega) k n _ (Or.inr ⟨_, _, rfl, by first | exact ev_tmp rfl | (rw [ev_tmp rfl]; congr 1; omega)⟩) (Or.inl ⟨rfl, rfl, rfl⟩) (Or.inl ⟨rfl, rfl⟩) (by omega) (by omega) (by omega) (by omega) ?_; clear hst; intro A22 c22 hst; simp only [List.set_cons_zero, List.set_cons_succ] at hst) | (refine L_cutO (d := some 22) rfl rfl hst rfl (by rfl) Tryd.underlying22 el_api_Digest 2 rfl (by first | rfl | omega) k n _ (Or.inr ⟨_, _, rfl, by first | exact ev_tmp rfl | (rw [ev_tmp rfl]; congr 1; omega)⟩) (Or.inl ⟨rfl, rfl, rfl⟩) (Or.inl ⟨rfl, rfl⟩) (by omega) (by omega) (by omega) (by omega) ?_; clear hst; intro A22 c22 hst; simp only [List.set_cons_zero, List.set_cons_succ] at hst) | (refine L_cutS (d := some 22) rfl rfl rfl (by rfl) Tryd.underlying22 el_api_Digest (by decide) (by first | assumption | exact hst.old (by decide) (by assumption) | exact hst.sl 0 rfl | exact hst.sl 1 rfl | exact hst.sl 2 rfl) k n _ (Or.inr ⟨_, _, rfl, by first | exact ev_tmp rfl | (rw [ev_tmp rfl]; congr 1; omega)⟩) (Or.inl ⟨rfl, rfl, rfl⟩) (Or.inl ⟨rfl, rfl⟩) (by omega) (by omega) (by omega) (by omega) ?_; intro A22 c22 hs22)) | fail)
   refine idx_g rfl ?_; go_wp2_with (first | (go_at_call 32; (try clear hnew); refine (HI.out A17 c17 _ (by rw [← H1.out]; exact hst.old (by decide) hs17)).mono ?_; rintro e Wk2 ⟨O19, c19, rfl, hnew⟩; replace hst := hst.trans hnew; simp only [List.cons_append, List.nil_append] at hst) | (go_at_call 28; (try clear hnew); refine (rroot_any (n - k) (ls.drop k) A22 c22 _ (by rw [← H2.out]; exact hst.old (by decide) hs22) (by omega)).mono ?_; rintro e Wk3 ⟨rfl, hnew⟩; replace hst := hst.keep hnew) | fail); refine ⟨by first | exact Below.refl _ _ | exact hnew.below, ?_⟩
   refine idx_g rfl ?_; go_wp2_with (first | (go_at_call 32; (try clear hnew); refine (HI.out A17 c17 _ (by rw [← H1.out]; exact hst.old (by decide) hs17)).mono ?_; rintro e Wk2 ⟨O19, c19, rfl, hnew⟩; replace hst := hst.trans hnew; simp only [List.cons_append, List.nil_append] at hst) | (go_at_call 28; (try clear hnew); refine (rroot_any (n - k) (ls.drop k) A22 c22 _ (by rw [← H2.out]; exact hst.old (by decide) hs22) (by omega)).mono ?_; rintro e Wk3 ⟨rfl, hnew⟩; replace hst := hst.keep hnew) | fail); refine ⟨by first | exact Below.refl _ _ | exact hnew.below, ?_⟩
   refine idx_g rfl ?_; go_wp2_with (first | (refine L_buildS (d := some 24) rfl rfl rfl [_] (bs_1 (ev_tmp rfl)) rfl Tryd.underlying22 el_api_Digest rfl (by first | (simp [Value.cells]; done) | (simp [Value.cells, Dig.size]; done)) (by decide) (by decide) ?_; (try clear hnew); intro g24 W24 hnew; replace hst := hst.trans hnew; simp only [List.cons_append, List.nil_append] at hst; simp only [List.flatMap_cons, List.flatMap_nil, List.append_nil, Value.cells, List.toList_toArray] at hst) | fail); refine ⟨by first | exact Below.refl _ _ | exact hnew.below, ?_⟩
   refine idx_e rfl ?_; go_wp2_with (first | (go_at_call 32; (try clear hnew); refine (HI.out A17 c17 _ (by rw [← H1.out]; exact hst.old (by decide) hs17)).mono ?_; rintro e Wk2 ⟨O19, c19, rfl, hnew⟩; replace hst := hst.trans hnew; simp only [List.cons_append, List.nil_append] at hst) | (go_at_call 28; (try clear hnew); refine (rroot_any (n - k) (ls.drop k) A22 c22 _ (by rw [← H2.out]; exact hst.old (by decide) hs22) (by omega)).mono ?_; rintro e Wk3 ⟨rfl, hnew⟩; replace hst := hst.keep hnew) | (refine L_appendO (d := some 25) rfl rfl hst rfl (by rfl) (by rfl) Tryd.underlying22 el_api_Digest rfl (by decide) (by decide) 0 rfl (by first | rfl | omega) (by first | exact hst.sl 0 rfl | exact hst.sl 1 rfl | exact hst.sl 2 rfl | assumption | exact hst.old (by decide) (by assumption)) (by first | exact oneCell_bytes | (simp [Value.oneCell']; done) | exact dig_oneR _) (by omega) ?_; clear hst; intro A25 c25 W25 hst; simp only [List.set_cons_zero, List.set_cons_succ, List.nil_append, Nat.zero_add] at hst) | (refine L_appendO (d := some 25) rfl rfl hst rfl (by rfl) (by rfl) Tryd.underlying22 el_api_Digest rfl (by decide) (by decide) 1 rfl (by first | rfl | omega) (by first | exact hst.sl 0 rfl | exact hst.sl 1 rfl | exact hst.sl 2 rfl | assumption | exact hst.old (by decide) (by assumption)) (by first | exact oneCell_bytes | (simp [Value.oneCell']; done) | exact dig_oneR _) (by omega) ?_; clear hst; intro A25 c25 W25 hst; simp only [List.set_cons_zero, List.set_cons_succ, List.nil_append, Nat.zero_add] at hst) | (refine L_appendO (d := some 25) rfl rfl hst rfl (by rfl) (by rfl) Tryd.underlying22 el_api_Digest rfl (by decide) (by decide) 2 rfl (by first | rfl | omega) (by first | exact hst.sl 0 rfl | exact hst.sl 1 rfl | exact hst.sl 2 rfl | assumption | exact hst.old (by decide) (by assumption)) (by first | exact oneCell_bytes | (simp [Value.oneCell']; done) | exact dig_oneR _) (by omega) ?_; clear hst; intro A25 c25 W25 hst; simp only [List.set_cons_zero, List.set_cons_succ, List.nil_append, Nat.zero_add] at hst) | (refine L_appendF (d := some 25) rfl rfl rfl (by rfl) (by rfl) Tryd.underlying22 el_api_Digest rfl (by decide) (by assumption) (by first | assumption | exact hst.sl 0 rfl | exact hst.sl 1 rfl | exact hst.sl 2 rfl | assumption | exact hst.old (by decide) (by assumption)) (by omega) (by omega) (by omega) ?_; (try clear hnew); intro A25 c25 W25 hnew; replace hst := hst.trans hnew; simp only [List.cons_append, List.nil_append] at hst) | fail)
   refine idx_g rfl ?_; go_wp2_with fail; refine ⟨by first | exact Below.refl _ _ | exact hnew.below, ?_⟩
   refine idx_nil ?_
   go_wp2_with fail
   go_ret
   refine ⟨_, _, rfl, ?_⟩
   rw [HB.out] at hst
   first | exact hst.pick [0] (by decide) | exact hst.pick [1] (by decide)
  ·have hle := longN_le (n - halfN n) (i - halfN n)
   rw [longN_right (by omega) hk]
   have HI := Lib.hid (fun A c w hs => ih (n - halfN n) (by omega) (ls.drop (halfN n)) A c (i - halfN n) w hs (by omega) (by omega))
   have HB := Lib.hid (show digsL (pathN (ls.drop (halfN n)) (i - halfN n)) ++ (rootN (ls.take (halfN n))).arr.toList = digsL (pathN ls i) by
    rw [pathN_right (ls := ls) (by omega) (by rw [hl]; exact hk), hl, digsL_append, digsL_single, Dig.toList])
   have e1 : (((i - halfN n : Nat)) : Int) = (i : Int) - (halfN n : Int) := by omega
   rw [e1] at HI
   clear ih hl e1
   generalize longN (i - halfN n) (n - halfN n) = r at *
   generalize halfN n = k at *
   go_enter Tryd.func32, Tryd.ntmps32
   go_wp2_with (first
    | (go_at_call 55; (try clear hnew); refine (HF.out _).mono ?_; rintro e Wk4 ⟨rfl, hnew⟩; replace hst := hst.keep hnew)
    | fail)
   (try clear hnew)
   refine wp_region_idxT [(0, 0), (1, 0), (2, 0), (3, 0), (4, 0), (5, 0), (7, 0), (8, 0), (9, 0), (6, 2), (10, 2), (11, 2), (12, 1), (13, 2)] (by kernel_rfl) (by kernel_rfl) ?_
   replace hst := hst.drew
   refine idx_q rfl rfl ?_; go_wp2_with fail
   refine idx_q rfl rfl ?_; go_wp2_with fail
   refine idx_q rfl rfl ?_; go_wp2_with (first | (first | (refine L_cutV (d := some 28) rfl rfl rfl (by rfl) Tryd.underlying22 el_api_Digest (by decide) hx k n _ (Or.inr ⟨_, _, rfl, by first | exact ev_tmp rfl | (rw [ev_tmp rfl]; congr 1; omega)⟩) (Or.inl ⟨rfl, rfl, rfl⟩) (Or.inl ⟨rfl, rfl⟩) (by omega) (by omega) (by omega) (by omega) ?_; intro A28 c28 hs28) | (refine L_cutO (d := some 28) rfl rfl hst rfl (by rfl) Tryd.underlying22 el_api_Digest 0 rfl (by first | rfl | omega) k n _ (Or.inr ⟨_, _, rfl, by first | exact ev_tmp rfl | (rw [ev_tmp rfl]; congr 1; omega)⟩) (Or.inl ⟨rfl, rfl, rfl⟩) (Or.inl ⟨rfl, rfl⟩) (by omega) (by omega) (by omega) (by omega) ?_; clear hst; intro A28 c28 hst; simp only [List.set_cons_zero, List.set_cons_succ] at hst) | (refine L_cutO (d := some 28) rfl rfl hst rfl (by rfl) Tryd.underlying22 el_api_Digest 1 rfl (by first | rfl | omega) k n _ (Or.inr ⟨_, _, rfl, by first | exact ev_tmp rfl | (rw [ev_tmp rfl]; congr 1; omega)⟩) (Or.inl ⟨rfl, rfl, rfl⟩) (Or.inl ⟨rfl, rfl⟩) (by omega) (by omega) (by omega) (by omega) ?_; clear hst; intro A28 c28 hst; simp only [List.set_cons_zero, List.set_cons_succ] at hst) | (refine L_cutO (d := some 28) rfl rfl hst rfl (by rfl) Tryd.underlying22 el_api_Digest 2 rfl (by first | rfl | omega) k n _ (Or.inr ⟨_, _, rfl, by first | exact ev_tmp rfl | (rw [ev_tmp rfl]; congr 1; omega)⟩) (Or.inl ⟨rfl, rfl, rfl⟩) (Or.inl ⟨rfl, rfl⟩) (by omega) (by omega) (by omega) (by omega) ?_; clear hst; intro A28 c28 hst; simp only [List.set_cons_zero, List.set_cons_succ] at hst) | (refine L_cutS (d := some 28) rfl rfl rfl (by rfl) Tryd.underlying22 el_api_Digest (by decide) (by first | assumption | exact hst.old (by decide) (by assumption) | exact hst.sl 0 rfl | exact hst.sl 1 rfl | exact hst.sl 2 rfl) k n _ (Or.inr ⟨_, _, rfl, by first | exact ev_tmp rfl | (rw [ev_tmp rfl]; congr 1; omega)⟩) (Or.inl ⟨rfl, rfl, rfl⟩) (Or.inl ⟨rfl, rfl⟩) (by omega) (by omega) (by omega) (by omega) ?_; intro A28 c28 hs28)) | fail)
   refine idx_q rfl rfl ?_; go_wp2_with fail
   refine idx_q rfl rfl ?_; go_wp2_with fail
   refine idx_q rfl rfl ?_; go_wp2_with fail
   refine idx_q rfl rfl ?_; go_wp2_with fail
   refine idx_q rfl rfl ?_; go_wp2_with fail
   refine idx_q rfl rfl ?_; go_wp2_with (first | (first | (refine L_cutV (d := some 35) rfl rfl rfl (by rfl) Tryd.underlying22 el_api_Digest (by decide) hx 0 k _ (Or.inl ⟨rfl, rfl⟩) (Or.inr ⟨_, _, rfl, by first | exact ev_tmp rfl | (rw [ev_tmp rfl]; congr 1; omega)⟩) (Or.inl ⟨rfl, rfl⟩) (by omega) (by omega) (by omega) (by omega) ?_; intro A35 c35 hs35) | (refine L_cutO (d := some 35) rfl rfl hst rfl (by rfl) Tryd.underlying22 el_api_Digest 0 rfl (by first | rfl | omega) 0 k _ (Or.inl ⟨rfl, rfl⟩) (Or.inr ⟨_, _, rfl, by first | exact ev_tmp rfl | (rw [ev_tmp rfl]; congr 1; omega)⟩) (Or.inl ⟨rfl, rfl⟩) (by omega) (by omega) (by omega) (by omega) ?_; clear hst; intro A35 c35 hst; simp only [List.set_cons_zero, List.set_cons_succ] at hst) | (refine L_cutO (d := some 35) rfl rfl hst rfl (by rfl) Tryd.underlying22 el_api_Digest 1 rfl (by first | rfl | omega) 0 k _ (Or.inl ⟨rfl, rfl⟩) (Or.inr ⟨_, _, rfl, by first | exact ev_tmp rfl | (rw [ev_tmp rfl]; congr 1; omega)⟩) (Or.inl ⟨rfl, rfl⟩) (by omega) (by omega) (by omega) (by omega) ?_; clear hst; intro A35 c35 hst; simp only [List.set_cons_zero, List.set_cons_succ] at hst) | (refine L_cutO (d := some 35) rfl rfl hst rfl (by rfl) Tryd.underlying22 el_api_Digest 2 rfl (by first | rfl | omega) 0 k _ (Or.inl ⟨rfl, rfl⟩) (Or.inr ⟨_, _, rfl, by first | exact ev_tmp rfl | (rw [ev_tmp rfl]; congr 1; omega)⟩) (Or.inl ⟨rfl, rfl⟩) (by omega) (by omega) (by omega) (by omega) ?_; clear hst; intro A35 c35 hst; simp only [List.set_cons_zero, List.set_cons_succ] at hst) | (refine L_cutS (d := some 35) rfl rfl rfl (by rfl) Tryd.underlying22 el_api_Digest (by decide) (by first | assumption | exact hst.old (by decide) (by assumption) | exact hst.sl 0 rfl | exact hst.sl 1 rfl | exact hst.sl 2 rfl) 0 k _ (Or.inl ⟨rfl, rfl⟩) (Or.inr ⟨_, _, rfl, by first | exact ev_tmp rfl | (rw [ev_tmp rfl]; congr 1; omega)⟩) (Or.inl ⟨rfl, rfl⟩) (by omega) (by omega) (by omega) (by omega) ?_; intro A35 c35 hs35)) | fail)
   refine idx_g rfl ?_; go_wp2_with (first | (go_at_call 32; (try clear hnew); refine (HI.out A28 c28 _ (by rw [← H2.out]; exact hst.old (by decide) hs28)).mono ?_; rintro e Wk5 ⟨O32, c32, rfl, hnew⟩; replace hst := hst.trans hnew; simp only [List.cons_append, List.nil_append] at hst) | (go_at_call 28; (try clear hnew); refine (rroot_any k (ls.take k) A35 c35 _ (by rw [← H1.out]; exact hst.old (by decide) hs35) (by omega)).mono ?_; rintro e Wk6 ⟨rfl, hnew⟩; replace hst := hst.keep hnew) | fail); refine ⟨by first | exact Below.refl _ _ | exact hnew.below, ?_⟩
   refine idx_g rfl ?_; go_wp2_with (first | (go_at_call 32; (try clear hnew); refine (HI.out A28 c28 _ (by rw [← H2.out]; exact hst.old (by decide) hs28)).mono ?_; rintro e Wk5 ⟨O32, c32, rfl, hnew⟩; replace hst := hst.trans hnew; simp only [List.cons_append, List.nil_append] at hst) | (go_at_call 28; (try clear hnew); refine (rroot_any k (ls.take k) A35 c35 _ (by rw [← H1.out]; exact hst.old (by decide) hs35) (by omega)).mono ?_; rintro e Wk6 ⟨rfl, hnew⟩; replace hst := hst.keep hnew) | fail); refine ⟨by first | exact Below.refl _ _ | exact hnew.below, ?_⟩
   refine idx_g rfl ?_; go_wp2_with (first | (refine L_buildS (d := some 37) rfl rfl rfl [_] (bs_1 (ev_tmp rfl)) rfl Tryd.underlying22 el_api_Digest rfl (by first | (simp [Value.cells]; done) | (simp [Value.cells, Dig.size]; done)) (by decide) (by decide) ?_; (try clear hnew); intro g37 W37 hnew; replace hst := hst.trans hnew; simp only [List.cons_append, List.nil_append] at hst; simp only [List.flatMap_cons, List.flatMap_nil, List.append_nil, Value.cells, List.toList_toArray] at hst) | fail); refine ⟨by first | exact Below.refl _ _ | exact hnew.below, ?_⟩
   refine idx_e rfl ?_; go_wp2_with (first | (go_at_call 32; (try clear hnew); refine (HI.out A28 c28 _ (by rw [← H2.out]; exact hst.old (by decide) hs28)).mono ?_; rintro e Wk5 ⟨O32, c32, rfl, hnew⟩; replace hst := hst.trans hnew; simp only [List.cons_append, List.nil_append] at hst) | (go_at_call 28; (try clear hnew); refine (rroot_any k (ls.take k) A35 c35 _ (by rw [← H1.out]; exact hst.old (by decide) hs35) (by omega)).mono ?_; rintro e Wk6 ⟨rfl, hnew⟩; replace hst := hst.keep hnew) | (refine L_appendO (d := some 38) rfl rfl hst rfl (by rfl) (by rfl) Tryd.underlying22 el_api_Digest rfl (by decide) (by decide) 0 rfl (by first | rfl | omega) (by first | exact hst.sl 0 rfl | exact hst.sl 1 rfl | exact hst.sl 2 rfl | assumption | exact hst.old (by decide) (by assumption)) (by first | exact oneCell_bytes | (simp [Value.oneCell']; done) | exact dig_oneR _) (by omega) ?_; clear hst; intro A38 c38 W38 hst; simp only [List.set_cons_zero, List.set_cons_succ, List.nil_append, Nat.zero_add] at hst) | (refine L_appendO (d := some 38) rfl rfl hst rfl (by rfl) (by rfl) Tryd.underlying22 el_api_Digest rfl (by decide) (by decide) 1 rfl (by first | rfl | omega) (by first | exact hst.sl 0 rfl | exact hst.sl 1 rfl | exact hst.sl 2 rfl | assumption | exact hst.old (by decide) (by assumption)) (by first | exact oneCell_bytes | (simp [Value.oneCell']; done) | exact dig_oneR _) (by omega) ?_; clear hst; intro A38 c38 W38 hst; simp only [List.set_cons_zero, List.set_cons_succ, List.nil_append, Nat.zero_add] at hst) | (refine L_appendO (d := some 38) rfl rfl hst rfl (by rfl) (by rfl) Tryd.underlying22 el_api_Digest rfl (by decide) (by decide) 2 rfl (by first | rfl | omega) (by first | exact hst.sl 0 rfl | exact hst.sl 1 rfl | exact hst.sl 2 rfl | assumption | exact hst.old (by decide) (by assumption)) (by first | exact oneCell_bytes | (simp [Value.oneCell']; done) | exact dig_oneR _) (by omega) ?_; clear hst; intro A38 c38 W38 hst; simp only [List.set_cons_zero, List.set_cons_succ, List.nil_append, Nat.zero_add] at hst) | (refine L_appendF (d := some 38) rfl rfl rfl (by rfl) (by rfl) Tryd.underlying22 el_api_Digest rfl (by decide) (by assumption) (by first | assumption | exact hst.sl 0 rfl | exact hst.sl 1 rfl | exact hst.sl 2 rfl | assumption | exact hst.old (by decide) (by assumption)) (by omega) (by omega) (by omega) ?_; (try clear hnew); intro A38 c38 W38 hnew; replace hst := hst.trans hnew; simp only [List.cons_append, List.nil_append] at hst) | fail)
   refine idx_g rfl ?_; go_wp2_with fail; refine ⟨by first | exact Below.refl _ _ | exact hnew.below, ?_⟩
   refine idx_nil ?_
   go_wp2_with fail
   go_ret
   refine ⟨_, _, rfl, ?_⟩
   rw [HB.out] at hst
   first | exact hst.pick [0] (by decide) | exact hst.pick [1] (by decide)
end Go.Proofs.YtfpppmamkmaneaaDoor

set_option maxRecDepth 20000
set_option linter.unusedSimpArgs false
set_option linter.unusedVariables false
namespace Go.Proofs.YtfpppmamkmaneaaDoor
open Go.RowKit
theorem u64_nat (n : Nat) (h : n < 18446744073709551616) : IntKind.u64.wrap (n : Int) = (n : Int) := by rw [IntKind.wrap_u64]; omega
set_option maxHeartbeats 1000000 in
theorem pcheck_ok (n : Nat) (hn : n ≤ 1073741824) (A : Option Addr) (k c : Nat) (w : World) (hk : k = onesN n) :
  Calls Tryd.prog 59 #[.int .i64 (n : Int), .slice A k c] w fun e w' => e = .returned .nilIface ∧ St w w' [] := by
 have hst := St.refl w
 have t1 : ¬ (n : Int) < 0 := by omega
 have t2 : ¬ 1073741824 < (n : Int) := by omega
 have H := Lib.hid (fun w => ones_any n hn w)
 rw [← hk] at H
 clear hk
 have hu := u64_nat n (by omega)
 go_enter Tryd.func59, Tryd.ntmps59
 go_wp2_with (first
  | (go_at_call 80; refine (H.out _).mono ?_; rintro e W16 ⟨rfl, rfl⟩)
  | fail)
 go_ret
 exact ⟨rfl, hst⟩
set_option maxHeartbeats 1000000 in
theorem pcheck_len (n : Nat) (hn : n ≤ 1073741824) (A : Option Addr) (k c : Nat) (w : World) (hk : k ≠ onesN n) :
  Calls Tryd.prog 59 #[.int .i64 (n : Int), .slice A k c] w fun e w' => e = .returned (errV 3) ∧ St w w' [] := by
 have hst := St.refl w
 have t1 : ¬ (n : Int) < 0 := by omega
 have t2 : ¬ 1073741824 < (n : Int) := by omega
 have H := Lib.hid (fun w => ones_any n hn w)
 have hne : ((k : Int) != (onesN n : Int)) = true := by rw [bne_iff_ne]; omega
 clear hk
 generalize onesN n = o at *
 have hu := u64_nat n (by omega)
 go_enter Tryd.func59, Tryd.ntmps59
 go_wp2_with (first
  | (go_at_call 80; refine (H.out _).mono ?_; rintro e W16 ⟨rfl, rfl⟩)
  | fail)
 go_ret
 exact ⟨rfl, hst⟩
theorem pcheck_range (n : Int) (hn : n < 0 ∨ 1073741824 < n) (A : Option Addr) (k c : Nat) (w : World) :
  Calls Tryd.prog 59 #[.int .i64 n, .slice A k c] w fun e w' => e = .returned (errV 2) ∧ St w w' [] := by
 have hst := St.refl w
 have h : n < 0 ∨ ¬ n < 0 ∧ 1073741824 < n := by omega
 clear hn
 rcases h with h1 | ⟨h1, h2⟩
 all_goals
  go_enter Tryd.func59, Tryd.ntmps59
  go_wp2_with (first
   | fail)
  go_ret
  exact ⟨rfl, hst⟩
set_option maxHeartbeats 1000000 in
theorem clone_any (ds : List Dig) (A : Option Addr) (n c : Nat) (w : World) (hx : SlR w A n c 32 (digsL ds)) (hb : n ≤ 31) :
  Calls Tryd.prog 60 #[.slice A n c] w fun e w' => ∃ O oc, e = .returned (.slice O n oc) ∧ St w w' [.row O n oc 25 32 (digsL ds)] := by
 have hst := St.refl w
 have hl : ds.length = n := by have := hx.1; rw [length_digsL] at this; omega
 have hcap := hx.2.1
 by_cases hA : A = none
 ·subst hA
  have h0 : n = 0 := by
   rcases Nat.eq_zero_or_pos n with h | h
   ·exact h
   ·obtain ⟨_, _, e, _⟩ := hx.2.2.2 h
    cases e
  subst h0
  obtain rfl : ds = [] := List.eq_nil_of_length_eq_zero hl
  have hq : ∀ w : World, (binOp BinOp.eql 22 (.slice none 0 c) (.slice none 0 0)).run Tryd.prog w = .ok (.bool true) w := fun w => by kernel_rfl
  go_enter Tryd.func60, Tryd.ntmps60
  go_wp2_with (first
   | fail)
  go_ret
  exact ⟨_, _, rfl, hst.nilRow 25 32⟩
 ·have hq : ∀ w : World, (binOp BinOp.eql 22 (.slice A n c) (.slice none 0 0)).run Tryd.prog w = .ok (.bool false) w := fun w => by
   cases A with
   | none => exact absurd rfl hA
   | some a => kernel_rfl
  go_enter Tryd.func60, Tryd.ntmps60
  go_wp2_with (first
   | (refine L_buildS (d := some 5) rfl rfl rfl [] (bs_0 ) rfl Tryd.underlying22 el_api_Digest rfl (by first | (simp [Value.cells]; done) | (simp [Value.cells, Dig.size]; done)) (by decide) (by decide) ?_; (try clear hnew); intro g5 W5 hnew; replace hst := hst.trans hnew; simp only [List.cons_append, List.nil_append] at hst; simp only [List.flatMap_cons, List.flatMap_nil, List.append_nil, Value.cells, List.toList_toArray] at hst)
   | (refine L_appendO (d := some 7) rfl rfl hst rfl (by rfl) (by rfl) Tryd.underlying22 el_api_Digest rfl (by decide) (by decide) 0 rfl (by first | rfl | omega) (by first | exact hx | exact hst.sl 0 rfl | exact hst.sl 1 rfl | assumption | exact hst.old (by decide) (by assumption)) (by first | exact oneCell_bytes | (simp [Value.oneCell']; done) | exact digsL_one) (by omega) ?_; clear hst; intro A7 c7 W7 hst; simp only [List.set_cons_zero, List.set_cons_succ, List.nil_append, Nat.zero_add] at hst)
   | (refine L_appendO (d := some 7) rfl rfl hst rfl (by rfl) (by rfl) Tryd.underlying22 el_api_Digest rfl (by decide) (by decide) 1 rfl (by first | rfl | omega) (by first | exact hx | exact hst.sl 0 rfl | exact hst.sl 1 rfl | assumption | exact hst.old (by decide) (by assumption)) (by first | exact oneCell_bytes | (simp [Value.oneCell']; done) | exact digsL_one) (by omega) ?_; clear hst; intro A7 c7 W7 hst; simp only [List.set_cons_zero, List.set_cons_succ, List.nil_append, Nat.zero_add] at hst)
   | (refine L_appendF (d := some 7) rfl rfl rfl (by rfl) (by rfl) Tryd.underlying22 el_api_Digest rfl (by decide) (by assumption) (by first | assumption | exact hx | exact hst.sl 0 rfl | exact hst.sl 1 rfl | assumption | exact hst.old (by decide) (by assumption)) (by omega) (by omega) (by omega) ?_; (try clear hnew); intro A7 c7 W7 hnew; replace hst := hst.trans hnew; simp only [List.cons_append, List.nil_append] at hst)
   | fail)
  go_ret
  exact ⟨_, _, rfl, hst.pick [0] (by decide)⟩
theorem xor_max (n : Nat) (hn : n < 18446744073709551616) : bits BinOp.xor IntKind.u64 IntKind.u64.max (n : Int) = ((18446744073709551615 - n : Nat) : Int) := by
 have h1 : IntKind.u64.max = ((18446744073709551615 : Nat) : Int) := by decide
 rw [h1, bits_xor_u64_nat 18446744073709551615 n (by decide) hn]
 congr 1
 have h2 := congrArg BitVec.toNat (BitVec.xor_allOnes (x := BitVec.ofNat 64 n))
 rw [BitVec.toNat_xor, BitVec.toNat_not, BitVec.toNat_allOnes, BitVec.toNat_ofNat, Nat.mod_eq_of_lt (by omega)] at h2
 rw [Nat.xor_comm]
 simpa using h2
theorem tz_of (n : Nat) (hn : n ≤ 1073741824) : (18446744073709551615 - n : Nat) < 18446744073709551616 ∧ 18446744073709551615 - n ≠ 0 := by omega
set_option maxHeartbeats 8000000 in
theorem pAdd_any (n : Nat) (hn : n ≤ 1073741824) (ps : List Dig) (l : Dig) (A : Option Addr) (k c : Nat) (w : World) (hT : Tb w) (hD : Dz w) (hx : SlR w A k c 32 (digsL ps)) (hk : k = onesN n) :
  Calls Tryd.prog 25 #[.int .i64 (n : Int), .slice A k c, l.v] w fun e w' => ∃ O q oc, e = .returned (.tuple #[.slice O q oc, .nilIface]) ∧ St w w' [.row O q oc 25 32 (digsL (grownN n ps l))] := by
 have hst := St.refl w
 have HT := Lib.hid hT
 have HD := Lib.hid hD
 have hl : ps.length = k := by have := hx.1; rw [length_digsL] at this; omega
 have hcap := hx.2.1
 have hb : k ≤ 31 := by rw [hk]; exact onesN_bits 31 n (by omega)
 obtain ⟨R, hR⟩ : ∃ R, grownN n ps l = R := ⟨_, rfl⟩
 rw [hR]
 have HR := Lib.hid hR
 have HM := Lib.hid (show ps.length = onesN n by omega)
 have HK := Lib.hid (fun w => pcheck_ok n hn A k c w hk)
 obtain ⟨hz1, hz2⟩ := tz_of n hn
 have HZ := Lib.hid (show ∀ w, Dz w → Calls Tryd.prog 61 #[.int .u64 (((18446744073709551615 - n : Nat)) : Int)] w fun e w' => e = .returned (.int .i64 (tonesN n : Int)) ∧ w' = w from fun w hD => by
  have := tz_any (18446744073709551615 - n) hz1 hz2 w hD
  rwa [ctz_is n hn] at this)
 have HTO := Lib.hid (show tonesN n ≤ onesN n from tones_ones n)
 clear hT hD hR hk hz1 hz2
 have hu := u64_nat n (by omega)
 have hxor := xor_max n (by omega)
 go_enter Tryd.func25, Tryd.ntmps25
 go_upto_region 1 with (first
  | (refine L_boxA (d := some 5) rfl rfl rfl (ev_tmp rfl) ?_; (try clear hnew); intro g5 W5 hnew; replace hst := hst.trans hnew; simp only [List.cons_append, List.nil_append] at hst)
  | fail)
 go_upto_region 2 with (first
  | (go_at_call 59; (try clear hnew); refine (HK.out _).mono ?_; rintro e Wk1 ⟨rfl, hnew⟩; replace hst := hst.keep hnew)
  | fail)
 go_upto_region 4 with (first
  | fail)
 (try clear hnew)
 go_cut [9] (fun s9 wx => ∃ (O : Option Addr) (oc : Nat), s9 = .slice O (k + 1) oc ∧ St w wx [.row O (k + 1) oc 25 32 (digsL (ps ++ [l]))])
 case first =>
  refine wp_region_pn (.one 0 3 (.one 2 0 (.two 1 (.one 3 2 (.one 4 1 (.one 5 2 .nil))) 3 (.one 1 2 (.one 4 1 (.one 5 2 .nil)))))) (by kernel_rfl) (by kernel_rfl) ?_
  replace hst := hst.drew
  refine pn_p rfl rfl ?_; go_wp2_with fail
  refine pn_q rfl rfl ?_; go_wp2_with (first | (first | (refine L_loadA (d := some 19) rfl rfl rfl (by rfl) Tryd.underlying25 rfl el_api_Digest (by first | exact hst.get 0 rfl | exact hst.get 1 rfl | exact hst.get 2 rfl | exact hst.get 3 rfl) (by first | rfl | exact Dig.size _ | (simp; done)) ?_) | (refine L_loadM (d := some 19) rfl rfl rfl (by rfl) Tryd.underlying25 rfl el_api_Digest (by first | assumption) (by first | rfl | exact Dig.size _ | (simp; done)) ?_)) | fail)
  refine pn_two rfl rfl ?_ ?_
  ·go_wp2_with (first | (go_at_call 60; (try clear hnew); refine (clone_any ps A k c _ (hst.old (by decide) hx) hb).mono ?_; rintro e Wk2 ⟨O18, c18, rfl, hnew⟩; replace hst := hst.trans hnew; simp only [List.cons_append, List.nil_append] at hst) | fail); refine ⟨by first | exact Below.refl _ _ | exact hnew.below, ?_⟩
   refine pn_g rfl ?_; go_wp2_with (first | (refine L_buildS (d := some 20) rfl rfl rfl [_] (bs_1 (ev_tmp rfl)) rfl Tryd.underlying22 el_api_Digest rfl (by first | (simp [Value.cells]; done) | (simp [Value.cells, Dig.size]; done)) (by decide) (by decide) ?_; (try clear hnew); intro g20 W20 hnew; replace hst := hst.trans hnew; simp only [List.cons_append, List.nil_append] at hst; simp only [List.flatMap_cons, List.flatMap_nil, List.append_nil, Value.cells, List.toList_toArray] at hst) | fail); refine ⟨by first | exact Below.refl _ _ | exact hnew.below, ?_⟩
   refine pn_e rfl ?_; go_wp2_with (first | (go_at_call 60; (try clear hnew); refine (clone_any ps A k c _ (hst.old (by decide) hx) hb).mono ?_; rintro e Wk2 ⟨O18, c18, rfl, hnew⟩; replace hst := hst.trans hnew; simp only [List.cons_append, List.nil_append] at hst) | (refine L_appendO (d := some 21) rfl rfl hst rfl (by rfl) (by rfl) Tryd.underlying22 el_api_Digest rfl (by decide) (by decide) 0 rfl (by first | rfl | omega) (by first | exact hst.sl 0 rfl | exact hst.sl 1 rfl | exact hst.sl 2 rfl | exact hst.sl 3 rfl | assumption | exact hst.old (by decide) (by assumption)) (by first | exact oneCell_bytes | (simp [Value.oneCell']; done) | exact dig_oneR _) (by omega) ?_; clear hst; intro A21 c21 W21 hst; simp only [List.set_cons_zero, List.set_cons_succ, List.nil_append, Nat.zero_add] at hst) | (refine L_appendO (d := some 21) rfl rfl hst rfl (by rfl) (by rfl) Tryd.underlying22 el_api_Digest rfl (by decide) (by decide) 1 rfl (by first | rfl | omega) (by first | exact hst.sl 0 rfl | exact hst.sl 1 rfl | exact hst.sl 2 rfl | exact hst.sl 3 rfl | assumption | exact hst.old (by decide) (by assumption)) (by first | exact oneCell_bytes | (simp [Value.oneCell']; done) | exact dig_oneR _) (by omega) ?_; clear hst; intro A21 c21 W21 hst; simp only [List.set_cons_zero, List.set_cons_succ, List.nil_append, Nat.zero_add] at hst) | (refine L_appendO (d := some 21) rfl rfl hst rfl (by rfl) (by rfl) Tryd.underlying22 el_api_Digest rfl (by decide) (by decide) 2 rfl (by first | rfl | omega) (by first | exact hst.sl 0 rfl | exact hst.sl 1 rfl | exact hst.sl 2 rfl | exact hst.sl 3 rfl | assumption | exact hst.old (by decide) (by assumption)) (by first | exact oneCell_bytes | (simp [Value.oneCell']; done) | exact dig_oneR _) (by omega) ?_; clear hst; intro A21 c21 W21 hst; simp only [List.set_cons_zero, List.set_cons_succ, List.nil_append, Nat.zero_add] at hst) | (refine L_appendO (d := some 21) rfl rfl hst rfl (by rfl) (by rfl) Tryd.underlying22 el_api_Digest rfl (by decide) (by decide) 3 rfl (by first | rfl | omega) (by first | exact hst.sl 0 rfl | exact hst.sl 1 rfl | exact hst.sl 2 rfl | exact hst.sl 3 rfl | assumption | exact hst.old (by decide) (by assumption)) (by first | exact oneCell_bytes | (simp [Value.oneCell']; done) | exact dig_oneR _) (by omega) ?_; clear hst; intro A21 c21 W21 hst; simp only [List.set_cons_zero, List.set_cons_succ, List.nil_append, Nat.zero_add] at hst) | (refine L_appendF (d := some 21) rfl rfl rfl (by rfl) (by rfl) Tryd.underlying22 el_api_Digest rfl (by decide) (by assumption) (by first | assumption | exact hst.sl 0 rfl | exact hst.sl 1 rfl | exact hst.sl 2 rfl | exact hst.sl 3 rfl | assumption | exact hst.old (by decide) (by assumption)) (by omega) (by omega) (by omega) ?_; (try clear hnew); intro A21 c21 W21 hnew; replace hst := hst.trans hnew; simp only [List.cons_append, List.nil_append] at hst) | fail)
   refine pn_g rfl ?_; go_wp2_with fail; refine ⟨by first | exact Below.refl _ _ | exact hnew.below, ?_⟩
   refine pn_nil ?_
   go_wp2_with fail
   go_meet
   case rel =>
    refine ⟨_, _, rfl, ?_⟩
    rw [digsL_append, digsL_single]
    first | exact hst.pick [0] (by decide) | exact hst.pick [1] (by decide)
  ·go_wp2_with (first | (refine L_buildS (d := some 20) rfl rfl rfl [_] (bs_1 (ev_tmp rfl)) rfl Tryd.underlying22 el_api_Digest rfl (by first | (simp [Value.cells]; done) | (simp [Value.cells, Dig.size]; done)) (by decide) (by decide) ?_; (try clear hnew); intro g20 W20 hnew; replace hst := hst.trans hnew; simp only [List.cons_append, List.nil_append] at hst; simp only [List.flatMap_cons, List.flatMap_nil, List.append_nil, Value.cells, List.toList_toArray] at hst) | fail); refine ⟨by first | exact Below.refl _ _ | exact hnew.below, ?_⟩
   refine pn_g rfl ?_; go_wp2_with (first | (go_at_call 60; (try clear hnew); refine (clone_any ps A k c _ (hst.old (by decide) hx) hb).mono ?_; rintro e Wk2 ⟨O18, c18, rfl, hnew⟩; replace hst := hst.trans hnew; simp only [List.cons_append, List.nil_append] at hst) | fail); refine ⟨by first | exact Below.refl _ _ | exact hnew.below, ?_⟩
   refine pn_e rfl ?_; go_wp2_with (first | (go_at_call 60; (try clear hnew); refine (clone_any ps A k c _ (hst.old (by decide) hx) hb).mono ?_; rintro e Wk2 ⟨O18, c18, rfl, hnew⟩; replace hst := hst.trans hnew; simp only [List.cons_append, List.nil_append] at hst) | (refine L_appendO (d := some 21) rfl rfl hst rfl (by rfl) (by rfl) Tryd.underlying22 el_api_Digest rfl (by decide) (by decide) 0 rfl (by first | rfl | omega) (by first | exact hst.sl 0 rfl | exact hst.sl 1 rfl | exact hst.sl 2 rfl | exact hst.sl 3 rfl | assumption | exact hst.old (by decide) (by assumption)) (by first | exact oneCell_bytes | (simp [Value.oneCell']; done) | exact dig_oneR _) (by omega) ?_; clear hst; intro A21 c21 W21 hst; simp only [List.set_cons_zero, List.set_cons_succ, List.nil_append, Nat.zero_add] at hst) | (refine L_appendO (d := some 21) rfl rfl hst rfl (by rfl) (by rfl) Tryd.underlying22 el_api_Digest rfl (by decide) (by decide) 1 rfl (by first | rfl | omega) (by first | exact hst.sl 0 rfl | exact hst.sl 1 rfl | exact hst.sl 2 rfl | exact hst.sl 3 rfl | assumption | exact hst.old (by decide) (by assumption)) (by first | exact oneCell_bytes | (simp [Value.oneCell']; done) | exact dig_oneR _) (by omega) ?_; clear hst; intro A21 c21 W21 hst; simp only [List.set_cons_zero, List.set_cons_succ, List.nil_append, Nat.zero_add] at hst) | (refine L_appendO (d := some 21) rfl rfl hst rfl (by rfl) (by rfl) Tryd.underlying22 el_api_Digest rfl (by decide) (by decide) 2 rfl (by first | rfl | omega) (by first | exact hst.sl 0 rfl | exact hst.sl 1 rfl | exact hst.sl 2 rfl | exact hst.sl 3 rfl | assumption | exact hst.old (by decide) (by assumption)) (by first | exact oneCell_bytes | (simp [Value.oneCell']; done) | exact dig_oneR _) (by omega) ?_; clear hst; intro A21 c21 W21 hst; simp only [List.set_cons_zero, List.set_cons_succ, List.nil_append, Nat.zero_add] at hst) | (refine L_appendO (d := some 21) rfl rfl hst rfl (by rfl) (by rfl) Tryd.underlying22 el_api_Digest rfl (by decide) (by decide) 3 rfl (by first | rfl | omega) (by first | exact hst.sl 0 rfl | exact hst.sl 1 rfl | exact hst.sl 2 rfl | exact hst.sl 3 rfl | assumption | exact hst.old (by decide) (by assumption)) (by first | exact oneCell_bytes | (simp [Value.oneCell']; done) | exact dig_oneR _) (by omega) ?_; clear hst; intro A21 c21 W21 hst; simp only [List.set_cons_zero, List.set_cons_succ, List.nil_append, Nat.zero_add] at hst) | (refine L_appendF (d := some 21) rfl rfl rfl (by rfl) (by rfl) Tryd.underlying22 el_api_Digest rfl (by decide) (by assumption) (by first | assumption | exact hst.sl 0 rfl | exact hst.sl 1 rfl | exact hst.sl 2 rfl | exact hst.sl 3 rfl | assumption | exact hst.old (by decide) (by assumption)) (by omega) (by omega) (by omega) ?_; (try clear hnew); intro A21 c21 W21 hnew; replace hst := hst.trans hnew; simp only [List.cons_append, List.nil_append] at hst) | fail)
   refine pn_g rfl ?_; go_wp2_with fail; refine ⟨by first | exact Below.refl _ _ | exact hnew.below, ?_⟩
   refine pn_nil ?_
   go_wp2_with fail
   go_meet
   case rel =>
    refine ⟨_, _, rfl, ?_⟩
    rw [digsL_append, digsL_single]
    first | exact hst.pick [0] (by decide) | exact hst.pick [1] (by decide)
 case rest =>
  clear hst
  obtain ⟨O, oc, rfl, hst⟩ := hcut
  clear HK
  have HR' := HR
  have HM' := HM
  clear HR HM
  go_wp2_with (first
   | (go_at_call 61; refine (HZ.out _ (HD.out.of hst)).mono ?_; rintro e W25 ⟨rfl, rfl⟩)
   | fail)
  clear HZ
  obtain ⟨T, hT'⟩ : ∃ T, T = tonesN n := ⟨_, rfl⟩
  have HT0 := Lib.hid hT'
  rw [← hT'] at HTO ⊢
  have hT31 : T ≤ 31 := by
   have := HTO.out
   have := onesN_bits 31 n (by omega)
   omega
  clear hT'
  go_loopg [9, 26] T (fun gk s9 s26 wr => ∃ (kk i : Nat) (qs : List Dig) (x : Dig) (O : Option Addr) (oc : Nat), Hid (i + gk = T) ∧ Hid (tonesN kk = gk) ∧ Hid (grownN kk qs x = R) ∧ Hid (qs.length = onesN kk) ∧ qs.length ≤ 31 ∧ s9 = .slice O (qs.length + 1) oc ∧ s26 = .int .i64 (i : Int) ∧ St w wr [.row O (qs.length + 1) oc 25 32 (digsL (qs ++ [x]))])
  case atStart => exact ⟨n, 0, ps, l, O, oc, Lib.hid (by omega), Lib.hid HT0.out.symm, HR', HM', by omega, by rw [hl], rfl, by rw [hl]; exact hst⟩
  case round =>
   clear hst
   obtain ⟨kk, i, qs, x, O, oc, HI, HG0, HG, HN, hq, rfl, rfl, hst⟩ := hrel
   have hoc := (hst.sl 0 rfl).2.1
   have hi := HI.out
   by_cases hin : i < T
   ·clear hi
    have hodd : kk % 2 = 1 := Classical.byContradiction fun h => by
     have h1 := HG0.out
     have h2 := HI.out
     rw [tonesN_even h] at h1
     omega
    obtain ⟨q, d, rfl, hql⟩ := last_of (k := onesN (kk / 2)) (by rw [HN.out, onesN_odd hodd])
    rw [List.length_append, List.length_singleton] at hst hq hoc ⊢
    have HG2 := Lib.hid (show grownN (kk / 2) q (nodeN d x) = R by rw [← HG.out, grownN_odd hodd])
    have HT2 := Lib.hid (show tonesN (kk / 2) + 1 = gk by rw [← HG0.out, tonesN_odd hodd])
    obtain ⟨r, hr⟩ : ∃ r, r = q.length := ⟨_, rfl⟩
    rw [← hr] at hst hq hoc hql ⊢
    have HQL := Lib.hid hql
    have HRQ := Lib.hid hr
    have hlen : digsL (q ++ [d] ++ [x]) = digsL q ++ (d.arr.toList ++ x.arr.toList) := by rw [digsL_append, digsL_append, digsL_single, digsL_single, List.append_assoc]
    have hq32 : (digsL q).length = r * 32 := by rw [length_digsL, hr]
    have HP := Lib.hid (show ((digsL (q ++ [d] ++ [x])).drop (((r : Int) + 1 + 1 - 2).toNat * 32)).take 32 = d.arr.toList by rw [show ((r : Int) + 1 + 1 - 2).toNat = r by omega, hlen, List.drop_left' hq32, List.take_left' (by rw [Array.length_toList, Dig.size])])
    have HX := Lib.hid (show ((digsL (q ++ [d] ++ [x])).drop (((r : Int) + 1).toNat * 32)).take 32 = x.arr.toList by
     rw [show ((r : Int) + 1).toNat = r + 1 by omega, ← digsL_single x]
     have h1 : (digsL (q ++ [d])).length = (r + 1) * 32 := by rw [length_digsL, List.length_append, hr]; rfl
     rw [digsL_append, List.drop_left' h1, List.take_of_length_le (by rw [length_digsL]; exact Nat.le_refl _)])
    have HC := Lib.hid (show ((digsL (q ++ [d] ++ [x])).drop (0 * 32)).take ((r - 0) * 32) = digsL q by rw [List.drop_zero, Nat.sub_zero, hlen, List.take_left' hq32])
    clear hr hql HG HN hlen hq32 HG0
    generalize digsL (q ++ [d] ++ [x]) = lqd at *
    go_upto_region 7 with (first
     | fail)
    go_upto_region 8 with (first
     | fail)
    (try clear hnew)
    refine wp_region_idxT [(0, 0), (1, 0), (2, 0), (4, 0), (5, 0), (6, 0), (7, 0), (8, 0), (9, 0), (10, 0), (11, 0), (12, 0), (13, 0), (3, 0), (14, 2), (15, 2), (16, 1), (17, 2)] (by kernel_rfl) (by kernel_rfl) ?_
    replace hst := hst.drew
    refine idx_q rfl rfl ?_; go_wp2_with fail
    refine idx_q rfl rfl ?_; go_wp2_with fail
    refine idx_q rfl rfl ?_; go_wp2_with fail
    refine idx_q rfl rfl ?_; go_wp2_with fail
    refine idx_q rfl rfl ?_; go_wp2_with fail
    refine idx_q rfl rfl ?_; go_wp2_with fail
    refine idx_q rfl rfl ?_; go_wp2_with (first | (refine L_idxS (d := some 37) rfl rfl rfl (by rfl) (by rfl) Tryd.underlying22 el_api_Digest (by first | assumption | exact hst.sl 0 rfl | exact hst.sl 1 rfl | exact hst.sl 2 rfl | exact hst.old (by decide) (by assumption)) (by omega) (by omega) ?_; intro o37 p37 ha37 hr37; (first | subst ha37 | (obtain ⟨h1, h2⟩ := some_addr ha37; subst h1; subst h2; clear ha37) | skip)) | fail)
    refine idx_q rfl rfl ?_; go_wp2_with (first | (refine L_loadM (d := some 38) rfl rfl rfl (by rfl) Tryd.underlying25 rfl el_api_Digest (cs := d.arr) (by rw [← HP.out]; exact hr37) (Dig.size _) ?_) | (first | (refine L_loadA (d := some 38) rfl rfl rfl (by rfl) Tryd.underlying25 rfl el_api_Digest (by first | exact hst.get 0 rfl | exact hst.get 1 rfl | exact hst.get 2 rfl) (by first | rfl | exact Dig.size _ | (simp; done)) ?_) | (refine L_loadM (d := some 38) rfl rfl rfl (by rfl) Tryd.underlying25 rfl el_api_Digest (by first | assumption) (by first | rfl | exact Dig.size _ | (simp; done)) ?_)) | fail)
    refine idx_q rfl rfl ?_; go_wp2_with fail
    refine idx_q rfl rfl ?_; go_wp2_with fail
    refine idx_q rfl rfl ?_; go_wp2_with fail
    refine idx_q rfl rfl ?_; go_wp2_with (first | (refine L_idxS (d := some 42) rfl rfl rfl (by rfl) (by rfl) Tryd.underlying22 el_api_Digest (by first | assumption | exact hst.sl 0 rfl | exact hst.sl 1 rfl | exact hst.sl 2 rfl | exact hst.old (by decide) (by assumption)) (by omega) (by omega) ?_; intro o42 p42 ha42 hr42; (first | subst ha42 | (obtain ⟨h1, h2⟩ := some_addr ha42; subst h1; subst h2; clear ha42) | skip)) | fail)
    refine idx_q rfl rfl ?_; go_wp2_with (first | (refine L_loadM (d := some 43) rfl rfl rfl (by rfl) Tryd.underlying25 rfl el_api_Digest (cs := x.arr) (by rw [← HX.out]; exact hr42) (Dig.size _) ?_) | (first | (refine L_loadA (d := some 43) rfl rfl rfl (by rfl) Tryd.underlying25 rfl el_api_Digest (by first | exact hst.get 0 rfl | exact hst.get 1 rfl | exact hst.get 2 rfl) (by first | rfl | exact Dig.size _ | (simp; done)) ?_) | (refine L_loadM (d := some 43) rfl rfl rfl (by rfl) Tryd.underlying25 rfl el_api_Digest (by first | assumption) (by first | rfl | exact Dig.size _ | (simp; done)) ?_)) | fail)
    refine idx_q rfl rfl ?_; go_wp2_with (first | (first | (refine L_cutO (d := some 33) rfl rfl hst rfl (by rfl) Tryd.underlying22 el_api_Digest 0 rfl (by first | rfl | omega) 0 r _ (Or.inl ⟨rfl, rfl⟩) (Or.inr ⟨_, _, rfl, by first | exact ev_tmp rfl | (rw [ev_tmp rfl]; congr 1; omega)⟩) (Or.inl ⟨rfl, rfl⟩) (by omega) (by omega) (by omega) (by omega) ?_; clear hst; intro A33 c33 hst; simp only [List.set_cons_zero, List.set_cons_succ] at hst) | (refine L_cutO (d := some 33) rfl rfl hst rfl (by rfl) Tryd.underlying22 el_api_Digest 1 rfl (by first | rfl | omega) 0 r _ (Or.inl ⟨rfl, rfl⟩) (Or.inr ⟨_, _, rfl, by first | exact ev_tmp rfl | (rw [ev_tmp rfl]; congr 1; omega)⟩) (Or.inl ⟨rfl, rfl⟩) (by omega) (by omega) (by omega) (by omega) ?_; clear hst; intro A33 c33 hst; simp only [List.set_cons_zero, List.set_cons_succ] at hst) | (refine L_cutO (d := some 33) rfl rfl hst rfl (by rfl) Tryd.underlying22 el_api_Digest 2 rfl (by first | rfl | omega) 0 r _ (Or.inl ⟨rfl, rfl⟩) (Or.inr ⟨_, _, rfl, by first | exact ev_tmp rfl | (rw [ev_tmp rfl]; congr 1; omega)⟩) (Or.inl ⟨rfl, rfl⟩) (by omega) (by omega) (by omega) (by omega) ?_; clear hst; intro A33 c33 hst; simp only [List.set_cons_zero, List.set_cons_succ] at hst) | (refine L_cutS (d := some 33) rfl rfl rfl (by rfl) Tryd.underlying22 el_api_Digest (by decide) (by first | assumption | exact hst.old (by decide) (by assumption) | exact hst.sl 0 rfl | exact hst.sl 1 rfl | exact hst.sl 2 rfl) 0 r _ (Or.inl ⟨rfl, rfl⟩) (Or.inr ⟨_, _, rfl, by first | exact ev_tmp rfl | (rw [ev_tmp rfl]; congr 1; omega)⟩) (Or.inl ⟨rfl, rfl⟩) (by omega) (by omega) (by omega) (by omega) ?_; intro A33 c33 hs33)) | fail)
    refine idx_g rfl ?_; go_wp2_with (first | (refine L_loadM (d := some 38) rfl rfl rfl (by rfl) Tryd.underlying25 rfl el_api_Digest (cs := d.arr) (by rw [← HP.out]; exact hr37) (Dig.size _) ?_) | (refine L_loadM (d := some 43) rfl rfl rfl (by rfl) Tryd.underlying25 rfl el_api_Digest (cs := x.arr) (by rw [← HX.out]; exact hr42) (Dig.size _) ?_) | (go_at_call 35; (try clear hnew); with_reducible refine (node_any _ _ _ (HT.out.of hst)).mono ?_; rintro e Wk3 ⟨rfl, hnew⟩; replace hst := hst.keep hnew) | fail); refine ⟨by first | exact Below.refl _ _ | exact hnew.below, ?_⟩
    refine idx_g rfl ?_; go_wp2_with (first | (refine L_buildS (d := some 45) rfl rfl rfl [_] (bs_1 (ev_tmp rfl)) rfl Tryd.underlying22 el_api_Digest rfl (by first | (simp [Value.cells]; done) | (simp [Value.cells, Dig.size]; done)) (by decide) (by decide) ?_; (try clear hnew); intro g45 W45 hnew; replace hst := hst.trans hnew; simp only [List.cons_append, List.nil_append] at hst; simp only [List.flatMap_cons, List.flatMap_nil, List.append_nil, Value.cells, List.toList_toArray] at hst) | fail); refine ⟨by first | exact Below.refl _ _ | exact hnew.below, ?_⟩
    refine idx_e rfl ?_; go_wp2_with (first | (refine L_loadM (d := some 38) rfl rfl rfl (by rfl) Tryd.underlying25 rfl el_api_Digest (cs := d.arr) (by rw [← HP.out]; exact hr37) (Dig.size _) ?_) | (refine L_loadM (d := some 43) rfl rfl rfl (by rfl) Tryd.underlying25 rfl el_api_Digest (cs := x.arr) (by rw [← HX.out]; exact hr42) (Dig.size _) ?_) | (go_at_call 35; (try clear hnew); with_reducible refine (node_any _ _ _ (HT.out.of hst)).mono ?_; rintro e Wk3 ⟨rfl, hnew⟩; replace hst := hst.keep hnew) | (refine L_appendO (d := some 46) rfl rfl hst rfl (by rfl) (by rfl) Tryd.underlying22 el_api_Digest rfl (by decide) (by decide) 0 rfl (by first | rfl | omega) (by first | exact hst.sl 0 rfl | exact hst.sl 1 rfl | exact hst.sl 2 rfl | assumption | exact hst.old (by decide) (by assumption)) (by first | exact oneCell_bytes | (simp [Value.oneCell']; done) | exact dig_oneR _) (by omega) ?_; clear hst; intro A46 c46 W46 hst; simp only [List.set_cons_zero, List.set_cons_succ, List.nil_append, Nat.zero_add] at hst) | (refine L_appendO (d := some 46) rfl rfl hst rfl (by rfl) (by rfl) Tryd.underlying22 el_api_Digest rfl (by decide) (by decide) 1 rfl (by first | rfl | omega) (by first | exact hst.sl 0 rfl | exact hst.sl 1 rfl | exact hst.sl 2 rfl | assumption | exact hst.old (by decide) (by assumption)) (by first | exact oneCell_bytes | (simp [Value.oneCell']; done) | exact dig_oneR _) (by omega) ?_; clear hst; intro A46 c46 W46 hst; simp only [List.set_cons_zero, List.set_cons_succ, List.nil_append, Nat.zero_add] at hst) | (refine L_appendO (d := some 46) rfl rfl hst rfl (by rfl) (by rfl) Tryd.underlying22 el_api_Digest rfl (by decide) (by decide) 2 rfl (by first | rfl | omega) (by first | exact hst.sl 0 rfl | exact hst.sl 1 rfl | exact hst.sl 2 rfl | assumption | exact hst.old (by decide) (by assumption)) (by first | exact oneCell_bytes | (simp [Value.oneCell']; done) | exact dig_oneR _) (by omega) ?_; clear hst; intro A46 c46 W46 hst; simp only [List.set_cons_zero, List.set_cons_succ, List.nil_append, Nat.zero_add] at hst) | (refine L_appendF (d := some 46) rfl rfl rfl (by rfl) (by rfl) Tryd.underlying22 el_api_Digest rfl (by decide) (by assumption) (by first | assumption | exact hst.sl 0 rfl | exact hst.sl 1 rfl | exact hst.sl 2 rfl | assumption | exact hst.old (by decide) (by assumption)) (by omega) (by omega) (by omega) ?_; (try clear hnew); intro A46 c46 W46 hnew; replace hst := hst.trans hnew; simp only [List.cons_append, List.nil_append] at hst) | fail)
    refine idx_g rfl ?_; go_wp2_with fail; refine ⟨by first | exact Below.refl _ _ | exact hnew.below, ?_⟩
    refine idx_nil ?_
    go_wp2_with fail
    go_roundg (gk - 1)
    case measure => have hi := HI.out; omega
    case rel =>
     have hi := HI.out
     have hrq := HRQ.out
     have ht2 := HT2.out
     subst hrq
     refine ⟨kk / 2, i + 1, q, nodeN d x, _, _, Lib.hid (by omega), Lib.hid (by omega), HG2, HQL, by omega, rfl, by go_num, ?_⟩
     rw [HC.out] at hst
     rw [digsL_append, digsL_single]
     first | exact hst.pick [0] (by decide) | exact hst.pick [1] (by decide)
   ·have h0 : ¬ kk % 2 = 1 := fun h => by
     have h1 := HG0.out
     have h2 := HI.out
     rw [tonesN_odd h] at h1
     omega
    have HG2 := Lib.hid (show digsL (qs ++ [x]) = digsL R by rw [← HG.out, grownN_even h0])
    clear HG HN h0 HG0
    have hlt : ¬ (i : Int) < (T : Int) := by omega
    go_wp2_with (first
     | fail)
    exact bp_two rfl rfl rfl rfl ⟨_, _, _, rfl, by rw [HG2.out] at hst; exact hst⟩
end Go.Proofs.YtfpppmamkmaneaaDoor

set_option maxRecDepth 20000
set_option linter.unusedSimpArgs false
set_option linter.unusedVariables false
namespace Go.Proofs.YtfpppmamkmaneaaDoor
open Go.RowKit
section
variable {P : Program} {r n : Nat} {ops : Array Oper} {Q : Exit → Act → World → Prop} {md : Region.Mode}
theorem rows_in {row : String} {args : Array Value} {w : World} {R : Value → World → Prop} (h : Rows P row args w R) : RowsIn (Fence.wide.inRound r) n P row args w R := fun c cs _ => by
 obtain ⟨v, w', hr, hs⟩ := h c cs
 exact ⟨v, w', hr, (stepsIn_wide (P := P)).2 hs⟩
theorem upon_in {o : Oper} {a : Act} {next next' : Act → World → Prop} (hk : ∀ a w, next a w → next' a w) {res : Result Next} (h : o.upon P a next Q res) : o.uponIn (Fence.wide.inRound r) n P a next' Q res := by
 cases res with
 | ok nx w' =>
  cases nx with
  | value v => exact hk _ _ h
  | skip => exact hk _ _ h
  | defer d => exact hk _ _ h
  | enter f args =>
   refine ⟨fun hd => (by simp [Fence.wide] at hd), CallsIn.inRound r (callsIn_wide.2 (Calls.mono h fun e w'' he => ?_))⟩
   cases e with
   | returned v => exact hk _ _ he
   | panicked c => exact he
   | outgrown => exact he
  | row row args => exact ⟨fun hd => (by simp [Fence.wide] at hd), rows_in (Rows.mono h fun v w'' he => hk _ _ he)⟩
  | _ => exact (h : False).elim
 | halt x w' =>
  cases x with
  | panic v => exact h
  | _ => exact (h : False).elim
def noDefer (o : Oper) : Bool := match o.op with
 | .defer _ => false
 | _ => true
theorem wpOper_in {o : Oper} (hc : noDefer o = true) {a : Act} {w : World} {next next' : Act → World → Prop} (hk : ∀ a w, next a w → next' a w) (h : o.wp P a w next Q) : o.wpIn (Fence.wide.inRound r) n P a w next' Q := by
 refine ⟨fun _ _ => trivial, ?_⟩
 rw [Oper.semAt_eq _ _ _ (fun c e => by simp [noDefer, e] at hc)]
 exact upon_in hk h
theorem wpOp_in (hall : ops.all noDefer = true) (hQ : ¬ LetsOut Q) {i : Nat} {K K' : Act → World → Prop} (hk : ∀ a w, K a w → K' a w) {a : Act} {w : World} (h : wpOp P ops Q i K a w) : wpOpIn (Fence.wide.inRound r) n P ops Q i K' a w := by
 unfold wpOp at h
 unfold wpOpIn
 cases ho : ops[i]? with
 | none => rw [ho] at h; exact hk _ _ h
 | some o =>
  simp only [ho] at h ⊢
  have hc : noDefer o = true := by
   obtain ⟨hi, rfl⟩ := Array.getElem?_eq_some_iff.1 ho
   exact Array.all_eq_true.1 hall i hi
  split
  ·rename_i hw
   rw [if_pos hw] at h
   rcases h with h | h
   ·exact wpOper_in hc hk h
   ·exact absurd h.2 hQ
  ·rename_i hw
   rw [if_neg hw] at h
   exact ⟨fun _ _ => trivial, hk _ _ h⟩
theorem wpAny_in (hall : ops.all noDefer = true) (hQ : ¬ LetsOut Q) : ∀ (fuel : Nat) (listed : Array Bool) (a : Act) (w : World), wpAny P md ops Q fuel listed a w → wpAnyIn (Fence.wide.inRound r) n P md ops Q fuel listed a w
 | 0, _, _, _, h => ⟨h.1, h.2⟩
 | fuel + 1, _, _, _, h => ⟨h.1, fun i hi => wpOp_in hall hQ (wpAny_in hall hQ fuel _) (h.2 i hi)⟩
theorem wpOps_in (hall : ops.all noDefer = true) (hQ : ¬ LetsOut Q) : ∀ (l : List Nat) (a : Act) (w : World), wpOps P ops Q l a w → wpOpsIn (Fence.wide.inRound r) n P ops Q l a w
 | [], _, _, h => h
 | i :: l, a, w, h => by
  rw [wpOps_cons] at h
  rw [wpOpsIn_cons]
  exact wpOp_in hall hQ (wpOps_in hall hQ l) h
theorem onlyN_mono {Q : Exit → Act → World → Prop} (e : Exit) (a : Act) (w : World) (q : onlyN (fun a w => Q .normal a w) e a w) : Q e a w := by
 cases e <;> first | exact q | exact (q : False).elim
theorem wpIn_region_idx {id : Nat} {l : List Oper} {a : Act} {w : World} (σ : List (Nat × Nat)) (hm : P.follows .mixedOrders = true) (hp : planOK l.toArray σ = true) (hall : l.toArray.all noDefer = true)
  (h : wpIdx P l.toArray (fun a w => Q .normal a w) σ a w.drew) : (Code.region id l.toArray true).wpIn (Fence.wide.inRound r) n P Q a w := by
 simp only [planOK, Bool.and_eq_true, beq_iff_eq] at hp
 obtain ⟨⟨hs, hp⟩, hlen⟩ := hp
 refine wpIn_mono (Q := onlyN fun a w => Q .normal a w) (wpIn_region_any hm (wpAny_in hall onlyN_out _ _ _ _ ?_)) onlyN_mono
 have := wpAnyF_of_idx hs σ (Array.replicate l.toArray.size false) a w.drew hp h
 rw [hlen] at this
 exact wpAny_of_F _ _ _ _ this
theorem wpIn_region_idxT {id : Nat} {l : List Oper} {a : Act} {w : World} (σ : List (Nat × Nat)) (hm : P.follows .mixedOrders = true) (hp : planOKT l.toArray σ = true) (hall : l.toArray.all noDefer = true)
  (h : wpIdx P l.toArray (fun a w => Q .normal a w) σ a w.drew) : (Code.region id l.toArray true).wpIn (Fence.wide.inRound r) n P Q a w := by
 simp only [planOKT, Bool.and_eq_true, beq_iff_eq] at hp
 obtain ⟨⟨hs, hp⟩, hlen⟩ := hp
 refine wpIn_mono (Q := onlyN fun a w => Q .normal a w) (wpIn_region_any hm (wpAny_in hall onlyN_out _ _ _ _ ?_)) onlyN_mono
 have := wpAnyF_of_idxT hs σ (Array.replicate l.toArray.size false) a w.drew hp h
 rw [hlen] at this
 exact wpAny_of_F _ _ _ _ this
theorem wpIn_region_plain {id : Nat} {l : List Oper} {a : Act} {w : World} (hall : l.toArray.all noDefer = true) (h : wpList P l.toArray (onlyN fun a w => Q .normal a w) l a w) : (Code.region id l.toArray false).wpIn (Fence.wide.inRound r) n P Q a w := by
 refine wpIn_mono (Q := onlyN fun a w => Q .normal a w) (wpIn_region (wpOps_in hall onlyN_out _ _ _ ?_)) onlyN_mono
 rw [List.range_eq_range', ← Array.length_toList, wpOps_eq_wpList l.toArray.toList 0 (by simp)]
 exact h
end
def Res.soft : Res → Bool
 | .obj _ _ => false
 | _ => true
theorem Res.soft_cells {W : World} {x : Res} (hs : x.soft = true) (h : x.holds W) {g : Nat} (hg : x.dom = some g) : ∃ o : Obj, W.heap[g]? = some o ∧ o.isCells = true := by
 cases x with
 | blk g' t cs => simp [Res.dom] at hg; subst hg; exact ⟨_, h, rfl⟩
 | obj g' o => cases hs
 | row A n c e s xs =>
  rcases h with ⟨rfl, _⟩ | ⟨g', off, cur, rfl, hh, _⟩
  ·simp [Res.dom] at hg
  ·simp [Res.dom] at hg; subst hg; exact ⟨_, hh, rfl⟩
theorem St.grown {w0 A B : World} {L : List Res} {row : Option Nat} (h : St w0 A L) (hs : L.all Res.soft = true) (hg : A.grownBy B row) (hr : ∀ r, row = some r → w0.heap.size ≤ r ∧ ∃ o : Obj, A.heap[r]? = some o ∧ o.isCells = false) : St w0 B L := by
 refine ⟨⟨hg.os.trans h.below.os, hg.tape.trans h.below.tape, hg.output.trans h.below.output, Nat.le_trans h.below.size hg.size, fun k hk => ?_⟩, fun x hx => ?_, h.ge, h.nd⟩
 ·have := h.below.size
  exact (hg.block k (by omega) (fun e => by have := (hr k e.symm).1; omega)).trans (h.below.block k hk)
 ·refine Res.holds_of (h.res x hx) fun g hgd => ?_
  obtain ⟨o, ho, hc⟩ := Res.soft_cells (List.all_eq_true.1 hs x hx) (h.res x hx) hgd
  refine hg.block g (Array.getElem?_eq_some_iff.1 ho).1 (fun e => ?_)
  obtain ⟨_, o', ho', hc'⟩ := hr g e.symm
  rw [ho] at ho'
  cases ho'
  rw [hc] at hc'
  cases hc'
def objsOf (W : World) (B : Nat) : List Res := (List.range W.heap.size).filterMap fun k => match W.heap[k]? with
 | some o => if B ≤ k ∧ o.isCells = false then some (.obj k o) else none
 | none => none
theorem mem_objsOf {W : World} {B : Nat} {x : Res} : x ∈ objsOf W B ↔ ∃ k o, W.heap[k]? = some o ∧ B ≤ k ∧ o.isCells = false ∧ x = .obj k o := by
 unfold objsOf
 rw [List.mem_filterMap]
 constructor
 ·rintro ⟨k, _, h⟩
  cases ho : W.heap[k]? with
  | none => rw [ho] at h; cases h
  | some o =>
   rw [ho] at h
   simp only at h
   split at h
   ·rename_i hc
    exact ⟨k, o, ho, hc.1, hc.2, (Option.some.inj h).symm⟩
   ·cases h
 ·rintro ⟨k, o, ho, hB, hc, rfl⟩
  refine ⟨k, List.mem_range.2 (Array.getElem?_eq_some_iff.1 ho).1, ?_⟩
  rw [ho]
  simp only [hB, hc, and_self, if_true]
theorem St.withObjs {w0 W : World} {L : List Res} (h : St w0 W L) (hs : L.all Res.soft = true) {B : Nat} (hB : w0.heap.size ≤ B) : St w0 W (L ++ objsOf W B) := by
 refine ⟨h.below, fun x hx => ?_, fun x hx g hg => ?_, List.pairwise_append.2 ⟨h.nd, ?_, fun x hx y hy g hgx hgy => ?_⟩⟩
 ·rcases List.mem_append.1 hx with hx | hx
  ·exact h.res x hx
  ·obtain ⟨k, o, ho, _, _, rfl⟩ := mem_objsOf.1 hx
   exact ho
 ·rcases List.mem_append.1 hx with hx | hx
  ·exact h.ge x hx g hg
  ·obtain ⟨k, o, ho, hk, _, rfl⟩ := mem_objsOf.1 hx
   simp [Res.dom] at hg
   omega
 ·unfold objsOf
  refine List.Pairwise.filterMap _ ?_ (List.nodup_range (n := W.heap.size))
  intro k k' hne x hx y hy g hgx hgy
  have key : ∀ (j : Nat) (z : Res), (match W.heap[j]? with
    | some o => if B ≤ j ∧ o.isCells = false then some (Res.obj j o) else none
    | none => none) = some z → z.dom = some j := by
   intro j z hz
   cases ho : W.heap[j]? with
   | none => rw [ho] at hz; cases hz
   | some o =>
    rw [ho] at hz
    simp only at hz
    split at hz
    ·cases hz; rfl
    ·cases hz
  have h1 := key k x hx
  have h2 := key k' y hy
  rw [h1] at hgx
  rw [h2] at hgy
  cases hgx
  cases hgy
  exact hne rfl
 ·obtain ⟨o, ho, hc⟩ := Res.soft_cells (List.all_eq_true.1 hs x hx) (h.res x hx) hgx
  obtain ⟨k, o', ho', _, hc', rfl⟩ := mem_objsOf.1 hy
  simp [Res.dom] at hgy
  subst hgy
  rw [ho] at ho'
  cases ho'
  rw [hc] at hc'
  cases hc'
theorem St.keepsFrom {w0 W W' : World} {L : List Res} {B : Nat} (h : St w0 W' (L ++ objsOf W B)) (hsz : W.heap.size ≤ W'.heap.size) : KeepsFrom B W W' :=
 ⟨hsz, fun k o hk ho hc => h.res (.obj k o) (List.mem_append_right _ (mem_objsOf.2 ⟨k, o, ho, hk, hc, rfl⟩))⟩
theorem St.size_of_row {w0 W1 W2 W' : World} {L : List Res} {A : Option Addr} {n c e s n' c' e' s' : Nat} {xs xs' : List Value} (hnew : St W1 W2 [.row A n c e s xs]) (h : St w0 W' L) (i : Nat) (hi : L[i]? = some (.row A n' c' e' s' xs')) (hn : 0 < n') : W1.heap.size ≤ W'.heap.size := by
 rcases h.at_ i hi with ⟨_, h0, _⟩ | ⟨g, off, cur, rfl, hh, _⟩
 ·omega
 ·have := hnew.ge _ (List.mem_singleton.2 rfl) g rfl
  have := (Array.getElem?_eq_some_iff.1 hh).1
  omega
theorem St.size_of_blk {w0 W1 W2 W' : World} {L : List Res} {g : Nat} {t t' : TypeId} {cs cs' : Array Value} (hnew : St W1 W2 [.blk g t cs]) (h : St w0 W' L) (i : Nat) (hi : L[i]? = some (.blk g t' cs')) : W1.heap.size ≤ W'.heap.size := by
 have h1 := hnew.ge _ (List.mem_singleton.2 rfl) g rfl
 have h2 := (Array.getElem?_eq_some_iff.1 (h.get i hi)).1
 omega
end Go.Proofs.YtfpppmamkmaneaaDoor

set_option maxRecDepth 20000
set_option linter.unusedSimpArgs false
set_option linter.unusedVariables false
namespace Go.Proofs.YtfpppmamkmaneaaDoor
open Go.RowKit Go.Shelf
attribute [local go_sem] Oper.semAt_some
theorem el_S_api_Digest : ElemIs Tryd.prog 22 (.slice none 0 0) 1 24 := by unfold ElemIs; kernel_rfl
theorem LI_val {P : Program} {n : Nat} {ops : Array Oper} {rest : List Oper} {o : Oper} {a : Act} {W W' : World} {Q : Exit → Act → World → Prop} {v : Value} (hgd : o.guard = none) (hc : noDefer o = true) (hr : (execOp a.eval o).run P W = .ok (.value v) W')
  (h : wpListIn Fence.wide n P ops Q rest (a.put o.dst v) W') : wpListIn Fence.wide n P ops Q (o :: rest) a W := by
 refine wpListIn_plain hgd fun K hK => ?_
 refine ⟨fun _ _ => trivial, ?_⟩
 rw [Oper.semAt_eq _ _ _ (fun c e => by simp [noDefer, e] at hc), hr]
 exact hK _ _ h
theorem exec_loadD {o : Oper} {a : Act} {W : World} {x : Operand} {b off : Nat} {d : Dig} (hra : W.rangeAt b off d.arr.toList) (ho : o.op = .load 25 x) (hx : a.eval x = .pointer (some ⟨b, off, none⟩)) : (execOp a.eval o).run Tryd.prog W = .ok (.value (.agg d.arr)) W := by
 have := exec_loadN (P := Tryd.prog) (o := o) (a := a) 25 x ho hx Tryd.underlying25 rfl (by rw [el_api_Digest.size]; simp [Dig.size]) hra
 simpa using this
def bkAt (ds : List Dig) (j : Nat) : Nat × Dig := (ds.length - 1 - j, ds.getD (ds.length - 1 - j) zeroD)
def bkTo (ds : List Dig) (k : Nat) : List (Nat × Dig) := (List.range k).map (bkAt ds)
theorem bkTo_succ (ds : List Dig) (k : Nat) : bkTo ds (k + 1) = bkTo ds k ++ [bkAt ds k] := by simp [bkTo, List.range_succ]
theorem bkTo_length (ds : List Dig) (k : Nat) : (bkTo ds k).length = k := by simp [bkTo]
def BkKeep (g B : Nat) (W W' : World) : Prop := W'.heap[g]? = W.heap[g]? ∧ ∀ k, k < B → W'.heap[k]? = W.heap[k]?
set_option maxRecDepth 100000 in
set_option maxHeartbeats 2000000 in
theorem back1_in (ds : List Dig) (A : Option Addr) (n c g : Nat) (w : World) (hs : SlR w A n c 32 (digsL ds)) (m : Nat) (hm : 1 ≤ m) (l : Nat) (J Jx : List (Nat × Dig) → World → Prop)
  (hY : ∀ pre x W, J pre W → pre.length < n → YieldAt Fence.wide (m - 1) Tryd.prog l #[.int .i64 (x.1 : Int), x.2.v] W fun e W' =>
   (e = .returned (.bool true) ∧ J (pre ++ [x]) W' ∧ BkKeep g w.heap.size W W') ∨ (e = .returned (.bool false) ∧ Jx (pre ++ [x]) W'))
  (W : World) (hg : W.heap[g]? = some (.cells #[.slice A n c] 22 (0, 0))) (hw : ∀ k, k < w.heap.size → W.heap[k]? = w.heap[k]?) (h0 : J [] W) :
  CallsIn Fence.wide m Tryd.prog 86 #[.func (.yield l) #[] #[], .pointer (some ⟨g, 0, none⟩)] W fun e W' => (∃ v, e = .returned v) ∧
   ((∃ ys, ys = bkTo ds n ∧ J ys W') ∨ (∃ pre, True ∧ Jx pre W')) := by
 have hro : Fence.wide.round = none := rfl
 have hl : ds.length = n := by have := hs.1; rw [length_digsL] at this; omega
 have hmax := hs.2.2.1
 have hnc := hs.2.1
 simp only [maxLen] at hmax
 have hc0 : W.cell? ⟨g, 0, none⟩ = some (.slice A n c) := cell_of hg rfl
 refine callsIn_of_wp Tryd.func86 rfl trivial ?_ hro
 simp only [Tryd.ntmps86, List.size_toArray, List.length_cons, List.length_nil, Nat.reduceAdd, Nat.reduceSub, Array.replicate_succ, Array.replicate_zero, List.push_toArray, List.append_toArray, List.nil_append, List.cons_append]
 gi_wp2
 gi_loopw [3] (fun i wr => ∃ k q : Nat, q + k = n ∧ i = .int .i64 ((q : Int) - 1) ∧ J (bkTo ds k) wr ∧ wr.heap[g]? = some (.cells #[.slice A n c] 22 (0, 0)) ∧ ∀ j, j < w.heap.size → wr.heap[j]? = w.heap[j]?)
  (fun i _ => (intOf i + 1).toNat)
 case atStart => exact ⟨0, n, rfl, by go_num, h0, hg, hw⟩
 case round =>
  obtain ⟨k, q, hq, rfl, hJs, hgr, hwr⟩ := hrel
  cases q with
  | succ j =>
   obtain ⟨fn, tmps, assign, body, hy, hR⟩ := hY _ (bkAt ds k) wr hJs (by rw [bkTo_length]; omega)
   have hc1 : wr.cell? ⟨g, 0, none⟩ = some (.slice A n c) := cell_of hgr rfl
   have hsr : SlR wr A n c 32 (digsL ds) := hs.of_heap (by decide) hwr
   obtain ⟨b, off, rfl, hra⟩ := hsr.at (i := j) (by omega)
   have hlt : (j : Int) < (n : Int) := by omega
   have hj : ((j + 1 : Nat) : Int) - 1 = (j : Int) := by omega
   rw [hj]
   have hbk : bkAt ds k = (j, ds.getD j zeroD) := by unfold bkAt; rw [show ds.length - 1 - k = j by omega]
   have hdj : ((digsL ds).drop (j * 32)).take 32 = (ds.getD j zeroD).arr.toList := by
    have := digsL_at ds j (by omega)
    rw [this, Dig.toList]
    simp [List.getD_eq_getElem?_getD, List.getElem?_eq_getElem (show j < ds.length by omega)]
   rw [hbk] at hy hR
   rw [hdj] at hra
   have HB := Lib.hid (show bkTo ds (k + 1) = bkTo ds k ++ [(j, ds.getD j zeroD)] by rw [bkTo_succ, hbk])
   generalize ds.getD j zeroD = d at *
   have hy2 : (Instr.yield l #[.int .i64 (j : Int), .agg d.arr]).run Tryd.prog wr = .ok (.round l fn tmps assign body) wr := hy
   have HQ := Lib.hid hq
   clear hsr hy hbk hdj hq hs
   gi_wp2_with (refine LI_val (v := .agg d.arr) (W' := wr) rfl rfl (exec_loadD hra rfl (ev_tmp rfl)) ?_)
   refine hR.mono ?_
   rintro e W3 (⟨rfl, hJ3, hk3⟩ | ⟨rfl, hJx3⟩)
   ·gi_wp2
    go_roundw
    case rel =>
     have hq := HQ.out
     exact ⟨k + 1, j, by omega, by go_num, by rw [HB.out]; exact hJ3, hk3.1.trans hgr, fun i hi => (hk3.2 i hi).trans (hwr i hi)⟩
    case measure => simp [intOf]
   ·gi_wp2
    refine bodyPost_ret (results_none rfl _ _ _) rfl ?_
    exact ⟨⟨_, rfl⟩, .inr ⟨_, trivial, hJx3⟩⟩
  | zero =>
   obtain rfl : k = n := by omega
   gi_wp2
   go_end0
   exact ⟨⟨_, rfl⟩, .inl ⟨_, rfl, hJs⟩⟩
theorem back_any (A : Option Addr) (n c : Nat) (w : World) : Calls Tryd.prog 63 #[.slice A n c] w fun e w' => ∃ g, e = .returned (.func (.func 86) #[] #[.pointer (some ⟨g, 0, none⟩)]) ∧ St w w' [.blk g 22 #[.slice A n c]] := by
 have hst := St.refl w
 have hmf : ∀ (fn : Fn) (first cap : Array Value) (w : World), (Instr.makeFunc fn first cap).run Tryd.prog w = .ok (.func fn first cap) w := fun _ _ _ _ => rfl
 go_enter Tryd.func63, Tryd.ntmps63
 go_wp2_with (first
  | (refine L_box1 (d := some 1) rfl rfl rfl (ev_tmp rfl) rfl ?_; (try clear hnew); intro g1 W1 hnew; replace hst := hst.trans hnew; simp only [List.cons_append, List.nil_append] at hst)
  | fail)
 go_ret
 exact ⟨_, rfl, hst⟩
theorem back_stops (ds : List Dig) (A : Option Addr) (n c g : Nat) (w : World) (hs : SlR w A n c 32 (digsL ds)) (m : Nat) (hm : 1 ≤ m) (w1 : World) (hb : ∀ k, k < w.heap.size → w1.heap[k]? = w.heap[k]?) (hsz : w.heap.size ≤ w1.heap.size) (hg : w1.heap[g]? = some (.cells #[.slice A n c] 22 (0, 0))) :
  SeqStopsK Fence.wide m Tryd.prog 86 #[.pointer (some ⟨g, 0, none⟩)] (fun x : Nat × Dig => #[.int .i64 (x.1 : Int), x.2.v]) (BkKeep g w.heap.size) (fun xs => xs = bkTo ds n) (fun _ => True) n w1 := fun l J Jx W hW _ _ hY h0 =>
 back1_in ds A n c g w hs m hm l J Jx hY W ((hW.block g (Array.getElem?_eq_some_iff.1 hg).1).trans hg) (fun k hk => (hW.block k (Nat.lt_of_lt_of_le hk hsz)).trans (hb k hk)) h0
end Go.Proofs.YtfpppmamkmaneaaDoor

set_option maxRecDepth 20000
set_option linter.unusedSimpArgs false
set_option linter.unusedVariables false
namespace Go.Proofs.YtfpppmamkmaneaaDoor
open Go.RowKit Go.Shelf
attribute [local go_sem] Oper.semAt_some
theorem res_cell_tmpB {P : Program} {W : World} {fn : Func} {p q : Tmp} {ty : TypeId} (hr : fn.results = #[.cell p ty, .tmp q]) {tmps : Array Value} {g : Nat} (hp : tmps.toList[p]? = some (.pointer (some ⟨g, 0, none⟩))) {v : Value} (hq : tmps.toList[q]? = some v) {t : TypeId} {cs : Array Value} {fr : Nat × Nat} (hg : W.heap[g]? = some (.cells cs t fr))
  {td : TypeDesc} (hu : P.underlying ty = some td) (hrow : td.isRow = true) {z : Value} {s b : Nat} (he : ElemIs P ty z s b) (hs : cs.size = s) : (results fn tmps).run P W = .ok (.tuple #[.agg cs, v]) W := by
 have hp' : tmps[p]?.getD undef = .pointer (some ⟨g, 0, none⟩) := by
  have : tmps[p]? = some (.pointer (some ⟨g, 0, none⟩)) := by simpa using hp
  simp [this]
 have hq' : tmps[q]?.getD undef = v := by
  have : tmps[q]? = some v := by simpa using hq
  simp [this]
 simp [results, hr, hp', hq', asAddr, run_loadVar_row W g t ty cs fr td hg hu (by cases td <;> simp_all [TypeDesc.isRow]) (by rw [he.size, hs])]
theorem bag_foldl : ∀ (q : List Dig) (d : Dig), bagN (q ++ [d]) = q.foldr nodeN d
 | [], d => rfl
 | x :: q, d => by rw [List.cons_append, bagN_cons x (by simp), bag_foldl q d]; rfl
theorem bk_fold : ∀ (q : List Dig) (d : Dig) (k : Nat), k ≤ q.length → (bkTo q k).foldl (fun (acc : Dig) (x : Nat × Dig) => nodeN x.2 acc) d = (q.drop (q.length - k)).foldr nodeN d
 | q, d, 0, _ => by simp [bkTo]
 | q, d, k + 1, h => by
  rw [bkTo_succ, List.foldl_append, bk_fold q d k (by omega)]
  have h1 : q.length - (k + 1) < q.length := by omega
  rw [List.drop_eq_getElem_cons h1]
  simp only [List.foldl_cons, List.foldl_nil, List.foldr_cons, bkAt]
  rw [show q.length - (k + 1) + 1 = q.length - k by omega, show q.length - 1 - k = q.length - (k + 1) by omega]
  simp [List.getD_eq_getElem?_getD, List.getElem?_eq_getElem h1]
theorem bk_all (q : List Dig) (d : Dig) (n : Nat) (h : q.length = n) : (bkTo q n).foldl (fun (acc : Dig) (x : Nat × Dig) => nodeN x.2 acc) d = bagN (q ++ [d]) := by
 rw [bk_fold q d n (by omega), h, Nat.sub_self, List.drop_zero, bag_foldl]
section
variable {P : Program} {ops : Array Oper} {rest : List Oper} {o : Oper} {a : Act} {W w0 : World} {Q : Exit → Act → World → Prop} {L : List Res}
theorem L_storeZ (hd : o.dst = none) (hw : Region.wanted o (yielded ops a.tmps) = true) (hst : St w0 W L) {T : TypeId} {x y : Operand} (ho : o.op = .store T x y) {g : Nat} (hx : a.eval x = .pointer (some ⟨g, 0, none⟩)) {cells : Array Value} (hy : a.eval y = .agg cells)
  (h1 : cells.all (·.oneCell') = true) {z : Value} {s b : Nat} (he : ElemIs P T z s b) (hs : cells.size = s) (n : Nat) {t : TypeId} {cs : Array Value} (hn : L[n]? = some (.blk g t cs)) (ho' : cs.size = s)
  (h : ∀ W' : World, W.heap.size ≤ W'.heap.size → St w0 W' (L.set n (.blk g t cells)) → wpList P ops Q rest a W') : wpList P ops Q (o :: rest) a W :=
 L_skip hd hw (exec_storeRow T x y ho hx hy h1 (by rw [he.size, hs]) (hst.get n hn) (by rw [ho', hs])) (h _ (by simp) (hst.setRow n hn cells))
end
theorem onesN_ne {n : Nat} (h : n ≠ 0) : onesN n ≠ 0 := by
 have h1 := topN_pos n
 have h2 := topN_le h
 have h3 := topN_lt n
 have := onesN_pow (Nat.log2 n) (n - topN n) (by show _ < topN n; omega)
 rw [show 2 ^ Nat.log2 n = topN n from rfl, show topN n + (n - topN n) = n by omega] at this
 omega
theorem path_last2 (path : List Dig) (m : Nat) (hl : path.length = m + 1) : ∃ rest p, path = rest ++ [p] ∧ rest.length = m ∧ ((digsL path).drop (m * 32)).take 32 = p.arr.toList ∧ ((digsL path).drop (0 * 32)).take ((m - 0) * 32) = digsL rest := by
 refine ⟨path.take m, path[m]'(by omega), ?_, by rw [List.length_take]; omega, by rw [Dig.toList]; exact digsL_at path m (by omega), ?_⟩
 ·have := List.take_succ_eq_append_getElem (l := path) (i := m) (by omega)
  rw [← this, List.take_of_length_le (by omega)]
 ·rw [digsL_cut]
  rfl
set_option maxHeartbeats 4000000 in
theorem pRoot_zero (ps : List Dig) (A : Option Addr) (c : Nat) (w : World) (hT : Tb w) (hx : SlR w A 0 c 32 (digsL ps)) :
  Calls Tryd.prog 26 #[.int .i64 0, .slice A 0 c] w fun e w' => e = .returned (.tuple #[(sha []).v, .nilIface]) ∧ St w w' [] := by
 have hst := St.refl w
 have HT := Lib.hid hT
 have HK := Lib.hid (fun w => pcheck_ok 0 (by decide) A 0 c w onesN_zero.symm)
 clear hT
 go_enter Tryd.func26, Tryd.ntmps26
 go_upto_region 1 with (first
  | (refine L_allocA (d := some 4) rfl rfl rfl el_api_Digest ?_; (try clear hnew); intro g4 W4 hnew; replace hst := hst.trans hnew; simp only [List.cons_append, List.nil_append] at hst)
  | fail)
 go_upto_region 2 with (first
  | (go_at_call 59; (try clear hnew); refine (HK.out _).mono ?_; rintro e Wk ⟨rfl, hnew⟩; replace hst := hst.keep hnew)
  | fail)
 go_upto_region 4 with (first
  | fail)
 go_upto_region 5 with (first
  | fail)
 go_wp2_with (first
  | (go_at_call 62; (try clear hnew); refine (ssum_any [] none 0 0 _ (HT.out.of hst) (SlR.nil_ _ 1) (by decide)).mono ?_; rintro e Wk1 ⟨rfl, hnew⟩; replace hst := hst.keep hnew)
  | (refine wpl_at (.store 25 (.tmp 4) (.tmp 19)) rfl ?_; first | (refine L_storeA rfl rfl hst rfl (by rfl) (ev_tmp rfl) (by first | rfl | exact Dig.one _ | (simp; done)) el_api_Digest (by first | rfl | exact Dig.size _ | (simp; done)) 0 rfl (by first | rfl | exact Dig.size _ | (simp; done)) ?_; clear hst; intro WS1 hst; simp only [List.set_cons_zero, List.set_cons_succ] at hst) | (refine L_storeA rfl rfl hst rfl (by rfl) (ev_tmp rfl) (by first | rfl | exact Dig.one _ | (simp; done)) el_api_Digest (by first | rfl | exact Dig.size _ | (simp; done)) 1 rfl (by first | rfl | exact Dig.size _ | (simp; done)) ?_; clear hst; intro WS1 hst; simp only [List.set_cons_zero, List.set_cons_succ] at hst) | (refine L_storeM rfl rfl hst rfl (by rfl) (ev_tmp rfl) (by first | rfl | exact Dig.one _ | (simp; done)) el_api_Digest (by first | rfl | exact Dig.size _ | (simp; done)) 0 rfl (by first | exact of_decide_eq_true rfl | (simp; done)) ?_; clear hst; intro WS1 hst; simp only [List.set_cons_zero, List.set_cons_succ] at hst)  | (refine L_storeM rfl rfl hst rfl (by rfl) (ev_tmp rfl) (by first | rfl | exact Dig.one _ | (simp; done)) el_api_Digest (by first | rfl | exact Dig.size _ | (simp; done)) 1 rfl (by first | exact of_decide_eq_true rfl | (simp; done)) ?_; clear hst; intro WS1 hst; simp only [List.set_cons_zero, List.set_cons_succ] at hst))
  | fail)
 refine bp_cell_tmp rfl rfl rfl rfl (hst.get 0 rfl) Tryd.underlying25 rfl el_api_Digest (by first | rfl | exact Dig.size _ | (simp; done)) ?_
 exact ⟨rfl, hst.forget⟩
set_option maxHeartbeats 8000000 in
set_option maxRecDepth 100000 in
theorem pRoot_any (n : Nat) (hn : n ≤ 1073741824) (h0 : n ≠ 0) (ps : List Dig) (A : Option Addr) (k c : Nat) (w : World) (hT : Tb w) (hx : SlR w A k c 32 (digsL ps)) (hk : k = onesN n) :
  Calls Tryd.prog 26 #[.int .i64 (n : Int), .slice A k c] w fun e w' => e = .returned (.tuple #[(bagN ps).v, .nilIface]) ∧ St w w' [] := by
 have hst := St.refl w
 have HT := Lib.hid hT
 have hl : ps.length = k := by have := hx.1; rw [length_digsL] at this; omega
 have HK := Lib.hid (fun w => pcheck_ok n hn A k c w hk)
 have hb : k ≤ 31 := by rw [hk]; exact onesN_bits 31 n (by omega)
 obtain ⟨r, rfl⟩ : ∃ r, k = r + 1 := ⟨k - 1, by have := onesN_ne h0; omega⟩
 obtain ⟨q, d, rfl, hq, hp, hc⟩ := path_last2 ps r hl
 have HP := Lib.hid (show ((digsL (q ++ [d])).drop ((r : Int).toNat * 32)).take 32 = d.arr.toList from hp)
 have HC := Lib.hid hc
 have HQ := Lib.hid hq
 have HB := Lib.hid (bk_all q d r hq)
 have hcap := hx.2.1
 have h0' : ¬ (n : Int) = 0 := by omega
 clear hT hk hl hp hc hq
 generalize digsL (q ++ [d]) = lqd at *
 obtain ⟨f, hf⟩ : ∃ f : Dig → Nat × Dig → Dig, f = fun (acc : Dig) (x : Nat × Dig) => nodeN x.2 acc := ⟨_, rfl⟩
 rw [← hf] at HB
 have HF := Lib.hid hf
 clear hf
 generalize bagN (q ++ [d]) = R at *
 refine (callsIn_wide (n := 5)).1 ?_
 refine callsIn_of_wp_marks Tryd.func26 rfl trivial ?_ rfl
 refine wpIn_wide.2 ?_
 simp only [Tryd.ntmps26, List.size_toArray, List.length_cons, List.length_nil, Nat.reduceAdd, Nat.reduceSub, Array.replicate_succ, Array.replicate_zero, List.push_toArray, List.append_toArray, List.nil_append, List.cons_append]
 go_upto_region 1 with (first
  | (refine L_allocA (d := some 4) rfl rfl rfl el_api_Digest ?_; (try clear hnew); intro g4 W4 hnew; replace hst := hst.trans hnew; simp only [List.cons_append, List.nil_append] at hst)
  | fail)
 go_upto_region 2 with (first
  | (go_at_call 59; (try clear hnew); refine (HK.out _).mono ?_; rintro e Wk ⟨rfl, hnew⟩; replace hst := hst.keep hnew)
  | fail)
 go_upto_region 4 with (first
  | fail)
 go_upto_region 6 with (first
  | fail)
 go_upto_region 7 with (first
  | (refine L_loadM (d := some 25) rfl rfl rfl (by rfl) Tryd.underlying25 rfl el_api_Digest (cs := d.arr) (by rw [← HP.out]; exact hr24) (Dig.size _) ?_)
  | (refine L_idxS (d := some 24) rfl rfl rfl (by rfl) (by rfl) Tryd.underlying22 el_api_Digest (by first | exact hst.old (by decide) hx | assumption | exact hst.sl 0 rfl | exact hst.sl 1 rfl | exact hst.sl 2 rfl | exact hst.old (by decide) (by assumption)) (by omega) (by omega) ?_; intro o24 p24 ha24 hr24; (first | subst ha24 | (obtain ⟨h1, h2⟩ := some_addr ha24; subst h1; subst h2; clear ha24) | skip))
  | (first | (refine L_loadA (d := some 25) rfl rfl rfl (by rfl) Tryd.underlying25 rfl el_api_Digest (by first | exact hst.get 0 rfl | exact hst.get 1 rfl | exact hst.get 2 rfl) (by first | rfl | exact Dig.size _ | (simp; done)) ?_) | (refine L_loadM (d := some 25) rfl rfl rfl (by rfl) Tryd.underlying25 rfl el_api_Digest (by first | assumption) (by first | rfl | exact Dig.size _ | (simp; done)) ?_))
  | (refine L_allocA (d := some 7) rfl rfl rfl el_api_Digest ?_; (try clear hnew); intro g7 W7 hnew; replace hst := hst.trans hnew; simp only [List.cons_append, List.nil_append] at hst)
  | (refine wpl_at (.store 25 (.tmp 7) (.tmp 25)) rfl ?_; first | (refine L_storeA rfl rfl hst rfl (by rfl) (ev_tmp rfl) (by first | rfl | exact Dig.one _ | (simp; done)) el_api_Digest (by first | rfl | exact Dig.size _ | (simp; done)) 0 rfl (by first | rfl | exact Dig.size _ | (simp; done)) ?_; clear hst; intro WS7 hst; simp only [List.set_cons_zero, List.set_cons_succ] at hst) | (refine L_storeA rfl rfl hst rfl (by rfl) (ev_tmp rfl) (by first | rfl | exact Dig.one _ | (simp; done)) el_api_Digest (by first | rfl | exact Dig.size _ | (simp; done)) 1 rfl (by first | rfl | exact Dig.size _ | (simp; done)) ?_; clear hst; intro WS7 hst; simp only [List.set_cons_zero, List.set_cons_succ] at hst) | (refine L_storeA rfl rfl hst rfl (by rfl) (ev_tmp rfl) (by first | rfl | exact Dig.one _ | (simp; done)) el_api_Digest (by first | rfl | exact Dig.size _ | (simp; done)) 2 rfl (by first | rfl | exact Dig.size _ | (simp; done)) ?_; clear hst; intro WS7 hst; simp only [List.set_cons_zero, List.set_cons_succ] at hst) | (refine L_storeM rfl rfl hst rfl (by rfl) (ev_tmp rfl) (by first | rfl | exact Dig.one _ | (simp; done)) el_api_Digest (by first | rfl | exact Dig.size _ | (simp; done)) 0 rfl (by first | exact of_decide_eq_true rfl | (simp; done)) ?_; clear hst; intro WS7 hst; simp only [List.set_cons_zero, List.set_cons_succ] at hst)  | (refine L_storeM rfl rfl hst rfl (by rfl) (ev_tmp rfl) (by first | rfl | exact Dig.one _ | (simp; done)) el_api_Digest (by first | rfl | exact Dig.size _ | (simp; done)) 1 rfl (by first | exact of_decide_eq_true rfl | (simp; done)) ?_; clear hst; intro WS7 hst; simp only [List.set_cons_zero, List.set_cons_succ] at hst)  | (refine L_storeM rfl rfl hst rfl (by rfl) (ev_tmp rfl) (by first | rfl | exact Dig.one _ | (simp; done)) el_api_Digest (by first | rfl | exact Dig.size _ | (simp; done)) 2 rfl (by first | exact of_decide_eq_true rfl | (simp; done)) ?_; clear hst; intro WS7 hst; simp only [List.set_cons_zero, List.set_cons_succ] at hst))
  | fail)
 go_wp2_with (first
  | (go_at_call 63; (try clear hnew); refine (back_any _ _ _ _).mono ?_; rintro e Wb ⟨gb, rfl, hnew⟩; replace hst := hst.trans hnew; simp only [List.cons_append, List.nil_append] at hst)
  | (first | (refine L_cutV (d := some 30) rfl rfl rfl (by rfl) Tryd.underlying22 el_api_Digest (by decide) hx 0 r _ (Or.inl ⟨rfl, rfl⟩) (Or.inr ⟨_, _, rfl, by first | exact ev_tmp rfl | (rw [ev_tmp rfl]; congr 1; omega)⟩) (Or.inl ⟨rfl, rfl⟩) (by omega) (by omega) (by omega) (by omega) ?_; intro A30 c30 hs30) | (refine L_cutO (d := some 30) rfl rfl hst rfl (by rfl) Tryd.underlying22 el_api_Digest 0 rfl (by first | rfl | omega) 0 r _ (Or.inl ⟨rfl, rfl⟩) (Or.inr ⟨_, _, rfl, by first | exact ev_tmp rfl | (rw [ev_tmp rfl]; congr 1; omega)⟩) (Or.inl ⟨rfl, rfl⟩) (by omega) (by omega) (by omega) (by omega) ?_; clear hst; intro A30 c30 hst; simp only [List.set_cons_zero, List.set_cons_succ] at hst) | (refine L_cutO (d := some 30) rfl rfl hst rfl (by rfl) Tryd.underlying22 el_api_Digest 1 rfl (by first | rfl | omega) 0 r _ (Or.inl ⟨rfl, rfl⟩) (Or.inr ⟨_, _, rfl, by first | exact ev_tmp rfl | (rw [ev_tmp rfl]; congr 1; omega)⟩) (Or.inl ⟨rfl, rfl⟩) (by omega) (by omega) (by omega) (by omega) ?_; clear hst; intro A30 c30 hst; simp only [List.set_cons_zero, List.set_cons_succ] at hst) | (refine L_cutO (d := some 30) rfl rfl hst rfl (by rfl) Tryd.underlying22 el_api_Digest 2 rfl (by first | rfl | omega) 0 r _ (Or.inl ⟨rfl, rfl⟩) (Or.inr ⟨_, _, rfl, by first | exact ev_tmp rfl | (rw [ev_tmp rfl]; congr 1; omega)⟩) (Or.inl ⟨rfl, rfl⟩) (by omega) (by omega) (by omega) (by omega) ?_; clear hst; intro A30 c30 hst; simp only [List.set_cons_zero, List.set_cons_succ] at hst) | (refine L_cutS (d := some 30) rfl rfl rfl (by rfl) Tryd.underlying22 el_api_Digest (by decide) (by first | exact hst.old (by decide) hx | assumption | exact hst.old (by decide) (by assumption) | exact hst.sl 0 rfl | exact hst.sl 1 rfl | exact hst.sl 2 rfl) 0 r _ (Or.inl ⟨rfl, rfl⟩) (Or.inr ⟨_, _, rfl, by first | exact ev_tmp rfl | (rw [ev_tmp rfl]; congr 1; omega)⟩) (Or.inl ⟨rfl, rfl⟩) (by omega) (by omega) (by omega) (by omega) ?_; intro A30 c30 hs30))
  | fail)
 clear HK hr24
 have hs30' : SlR w A30 r c30 32 (digsL q) := by rw [← HC.out]; exact hs30
 have hgb := hst.get 0 rfl
 have hBw := hst.below.size
 have hBb := hst.below.block
 clear hs30 hnew
 refine (wpIn_wide (n := 4)).1 ?_
 refine wpIn_rangeFunc_ownH (w0 := Wb) rfl (by decide) (gf := 86) (lb := #[.pointer (some ⟨gb, 0, none⟩)]) rfl trivial (enters_of Tryd.func86 (by kernel_rfl) rfl)
  (back_stops q A30 r c30 gb w hs30' 3 (by decide) Wb hBb hBw hgb) (fun h h' => ⟨h'.1.trans h.1, fun k hk => (h'.2 k hk).trans (h.2 k hk)⟩)
  (fun W l o o' hl _ _ _ => ⟨World.putObj_heap_other (by have := (Array.getElem?_eq_some_iff.1 hgb).1; omega), fun k hk => World.putObj_heap_other (by omega)⟩) (Below.refl _ _) (fun _ => rfl)
  (fun pre W => St w W [.blk gb 22 #[.slice A30 r c30], .blk g7 25 (pre.foldl f d).arr, .blk g4 25 zeroD.arr])
  (fun _ _ _ => False)
  (fun s A B row hs hg hr => hs.grown rfl hg fun r e => ⟨Nat.le_trans hBw (hr r e).1, (hr r e).2⟩)
  (fun _ _ _ _ _ hs _ _ => hs.elim)
  hst
  (fun x a' W => ∃ g9, a' = { tmps := #[.int .i64 (n : Int), .slice (some ⟨o24, p24, none⟩) (r + 1) c, undef, undef, .pointer (some ⟨g4, 0, none⟩), .nilIface, .nilIface, .pointer (some ⟨g7, 0, none⟩), undef, .pointer (some ⟨g9, 0, none⟩), .int .i64 (n : Int), .slice (some ⟨o24, p24, none⟩) (r + 1) c, .nilIface, .nilIface, .bool false, undef, undef, .int .i64 (n : Int), .bool false, undef, .slice (some ⟨o24, p24, none⟩) (r + 1) c, .slice (some ⟨o24, p24, none⟩) (r + 1) c, .int .i64 ((r : Int) + 1), .int .i64 (r : Int), .pointer (some ⟨o24, p24 + r * 32, none⟩), .agg d.arr, .slice (some ⟨o24, p24, none⟩) (r + 1) c, .slice (some ⟨o24, p24, none⟩) (r + 1) c, .int .i64 ((r : Int) + 1), .int .i64 (r : Int), .slice A30 r c30, .func (.func 86) #[] #[.pointer (some ⟨gb, 0, none⟩)], .int .i64 (x.1 : Int), x.2.v, undef, undef, undef, undef], defers := [] } ∧ W.heap[g9]? = some (.cells x.2.arr 25 (0, 0)))
  (fun x a' s A B row hs hg hr => by
   obtain ⟨g9, e, h9⟩ := hs
   refine ⟨g9, e, (hg.block g9 (Array.getElem?_eq_some_iff.1 h9).1 (fun e' => ?_)).trans h9⟩
   obtain ⟨_, o, ho, hc⟩ := hr g9 e'.symm
   rw [h9] at ho
   cases ho
   cases hc) ?assign ?body ?done ?stop
 case stop =>
  intro D c pre W _ _ h _
  exact h.elim
 case assign =>
  clear hst
  rintro l pre ⟨j, x⟩ W K hst hK
  have hgW := hst.get 0 rfl
  have hst0 := hst
  have hst := hst.withObjs (B := Wb.heap.size) rfl hBw
  obtain ⟨T, hTT⟩ : ∃ T, T = objsOf W Wb.heap.size := ⟨_, rfl⟩
  rw [← hTT] at hst
  have HTT := Lib.hid hTT
  clear hTT
  simp only [List.cons_append, List.nil_append] at hst
  generalize pre.foldl f d = acc at *
  refine wpIn_region_plain (by kernel_rfl) ?_
  simp
  go_wp2_with (first
   | (refine L_allocA (d := some 9) rfl rfl rfl el_api_Digest ?_; (try clear hnew); intro g9 W9 hnew; replace hst := hst.trans hnew; simp only [List.cons_append, List.nil_append] at hst)
   | (refine wpl_at (.store 25 (.tmp 9) (.tmp 33)) rfl ?_; first | (refine L_storeA rfl rfl hst rfl (by rfl) (ev_tmp rfl) (by first | rfl | exact Dig.one _ | (simp; done)) el_api_Digest (by first | rfl | exact Dig.size _ | (simp; done)) 0 rfl (by first | rfl | exact Dig.size _ | (simp; done)) ?_; clear hst; intro WS1 hst; simp only [List.set_cons_zero, List.set_cons_succ] at hst) | (refine L_storeA rfl rfl hst rfl (by rfl) (ev_tmp rfl) (by first | rfl | exact Dig.one _ | (simp; done)) el_api_Digest (by first | rfl | exact Dig.size _ | (simp; done)) 1 rfl (by first | rfl | exact Dig.size _ | (simp; done)) ?_; clear hst; intro WS1 hst; simp only [List.set_cons_zero, List.set_cons_succ] at hst) | (refine L_storeA rfl rfl hst rfl (by rfl) (ev_tmp rfl) (by first | rfl | exact Dig.one _ | (simp; done)) el_api_Digest (by first | rfl | exact Dig.size _ | (simp; done)) 2 rfl (by first | rfl | exact Dig.size _ | (simp; done)) ?_; clear hst; intro WS1 hst; simp only [List.set_cons_zero, List.set_cons_succ] at hst) | (refine L_storeA rfl rfl hst rfl (by rfl) (ev_tmp rfl) (by first | rfl | exact Dig.one _ | (simp; done)) el_api_Digest (by first | rfl | exact Dig.size _ | (simp; done)) 3 rfl (by first | rfl | exact Dig.size _ | (simp; done)) ?_; clear hst; intro WS1 hst; simp only [List.set_cons_zero, List.set_cons_succ] at hst) | (refine L_storeM rfl rfl hst rfl (by rfl) (ev_tmp rfl) (by first | rfl | exact Dig.one _ | (simp; done)) el_api_Digest (by first | rfl | exact Dig.size _ | (simp; done)) 0 rfl (by first | exact of_decide_eq_true rfl | (simp; done)) ?_; clear hst; intro WS1 hst; simp only [List.set_cons_zero, List.set_cons_succ] at hst)  | (refine L_storeM rfl rfl hst rfl (by rfl) (ev_tmp rfl) (by first | rfl | exact Dig.one _ | (simp; done)) el_api_Digest (by first | rfl | exact Dig.size _ | (simp; done)) 1 rfl (by first | exact of_decide_eq_true rfl | (simp; done)) ?_; clear hst; intro WS1 hst; simp only [List.set_cons_zero, List.set_cons_succ] at hst)  | (refine L_storeM rfl rfl hst rfl (by rfl) (ev_tmp rfl) (by first | rfl | exact Dig.one _ | (simp; done)) el_api_Digest (by first | rfl | exact Dig.size _ | (simp; done)) 2 rfl (by first | exact of_decide_eq_true rfl | (simp; done)) ?_; clear hst; intro WS1 hst; simp only [List.set_cons_zero, List.set_cons_succ] at hst)  | (refine L_storeM rfl rfl hst rfl (by rfl) (ev_tmp rfl) (by first | rfl | exact Dig.one _ | (simp; done)) el_api_Digest (by first | rfl | exact Dig.size _ | (simp; done)) 3 rfl (by first | exact of_decide_eq_true rfl | (simp; done)) ?_; clear hst; intro WS1 hst; simp only [List.set_cons_zero, List.set_cons_succ] at hst))
   | fail)
  have hsz := St.size_of_blk hnew hst 0 rfl
  rw [HTT.out] at hst
  have hk := St.keepsFrom (L := [_, _, _, _]) hst hsz
  have hst := hst.drop (List.sublist_append_left [_, _, _, _] (objsOf W Wb.heap.size))
  exact hK _ _ hk ⟨(hst.get 1 rfl).trans hgW.symm, fun i hi => (hst.below.block i hi).trans (hst0.below.block i hi).symm⟩ (hst.pick [1, 2, 3] (by decide)) ⟨g9, rfl, hst.get 0 rfl⟩
 case done =>
  clear hst
  rintro D xs W hD hxs hst hK
  have hfin := HB.out
  rw [← hxs] at hfin
  rw [hfin] at hst
  clear hxs hfin
  have hst := hst.withObjs (B := Wb.heap.size) rfl hBw
  have HD := Lib.hid (mem_objsOf.2 ⟨D, _, hK, hD, rfl, rfl⟩ : Res.obj D (.deferred (some [])) ∈ objsOf W Wb.heap.size)
  generalize objsOf W Wb.heap.size = T at hst HD
  simp only [List.cons_append, List.nil_append] at hst
  clear hK
  go_wp2_with (first
   | (first | (refine L_loadA (d := some 37) rfl rfl rfl (by rfl) Tryd.underlying25 rfl el_api_Digest (by first | exact hst.get 0 rfl | exact hst.get 1 rfl | exact hst.get 2 rfl) (by first | rfl | exact Dig.size _ | (simp; done)) ?_) | (refine L_loadM (d := some 37) rfl rfl rfl (by rfl) Tryd.underlying25 rfl el_api_Digest (by first | assumption) (by first | rfl | exact Dig.size _ | (simp; done)) ?_))
   | (refine wpl_at (.store 25 (.tmp 4) (.tmp 37)) rfl ?_; first | (refine L_storeA rfl rfl hst rfl (by rfl) (ev_tmp rfl) (by first | rfl | exact Dig.one _ | (simp; done)) el_api_Digest (by first | rfl | exact Dig.size _ | (simp; done)) 0 rfl (by first | rfl | exact Dig.size _ | (simp; done)) ?_; clear hst; intro WS1 hst; simp only [List.set_cons_zero, List.set_cons_succ] at hst) | (refine L_storeA rfl rfl hst rfl (by rfl) (ev_tmp rfl) (by first | rfl | exact Dig.one _ | (simp; done)) el_api_Digest (by first | rfl | exact Dig.size _ | (simp; done)) 1 rfl (by first | rfl | exact Dig.size _ | (simp; done)) ?_; clear hst; intro WS1 hst; simp only [List.set_cons_zero, List.set_cons_succ] at hst) | (refine L_storeA rfl rfl hst rfl (by rfl) (ev_tmp rfl) (by first | rfl | exact Dig.one _ | (simp; done)) el_api_Digest (by first | rfl | exact Dig.size _ | (simp; done)) 2 rfl (by first | rfl | exact Dig.size _ | (simp; done)) ?_; clear hst; intro WS1 hst; simp only [List.set_cons_zero, List.set_cons_succ] at hst) | (refine L_storeM rfl rfl hst rfl (by rfl) (ev_tmp rfl) (by first | rfl | exact Dig.one _ | (simp; done)) el_api_Digest (by first | rfl | exact Dig.size _ | (simp; done)) 0 rfl (by first | exact of_decide_eq_true rfl | (simp; done)) ?_; clear hst; intro WS1 hst; simp only [List.set_cons_zero, List.set_cons_succ] at hst)  | (refine L_storeM rfl rfl hst rfl (by rfl) (ev_tmp rfl) (by first | rfl | exact Dig.one _ | (simp; done)) el_api_Digest (by first | rfl | exact Dig.size _ | (simp; done)) 1 rfl (by first | exact of_decide_eq_true rfl | (simp; done)) ?_; clear hst; intro WS1 hst; simp only [List.set_cons_zero, List.set_cons_succ] at hst)  | (refine L_storeM rfl rfl hst rfl (by rfl) (ev_tmp rfl) (by first | rfl | exact Dig.one _ | (simp; done)) el_api_Digest (by first | rfl | exact Dig.size _ | (simp; done)) 2 rfl (by first | exact of_decide_eq_true rfl | (simp; done)) ?_; clear hst; intro WS1 hst; simp only [List.set_cons_zero, List.set_cons_succ] at hst))
   | fail)
  have hK := hst.res _ (List.mem_append_right [_, _, _] HD.out)
  have hst := hst.drop (List.sublist_append_left [_, _, _] T)
  have hst := hst.grown rfl (grownBy_putObj' _ D (.deferred none)) (fun r e => by cases e; exact ⟨Nat.le_trans hBw hD, _, hK, rfl⟩)
  refine ⟨by simp, .inl ⟨_, _, rfl, run_takeDeferred hK, ?_⟩⟩
  refine ⟨_, res_cell_tmpB rfl rfl rfl (hst.get 2 rfl) Tryd.underlying25 rfl el_api_Digest (Dig.size _), rfl, hst.forget⟩
 case body =>
  clear hst
  rintro l pre ⟨j, x⟩ a' W hl hloop hst ⟨g9, rfl, h9⟩ hlen
  have hgW := hst.get 0 rfl
  have hst0 := hst
  have hst := hst.withObjs (B := Wb.heap.size) rfl hBw
  obtain ⟨T, hTT⟩ : ∃ T, T = objsOf W Wb.heap.size := ⟨_, rfl⟩
  rw [← hTT] at hst
  have HTT := Lib.hid hTT
  clear hTT
  simp only [List.cons_append, List.nil_append] at hst
  have HX := Lib.hid (show (pre ++ [(j, x)]).foldl f d = nodeN x (pre.foldl f d) by rw [List.foldl_append, HF.out]; rfl)
  dsimp only at h9 ⊢
  generalize pre.foldl f d = acc at *
  have hsz : W.heap.size ≤ W.heap.size := Nat.le_refl _
  refine wpIn_block ?_
  refine wpIn_region_plain (by kernel_rfl) ?_
  go_wp2_with (first
   | (refine L_loadA (d := some 34) rfl rfl rfl (by rfl) Tryd.underlying25 rfl el_api_Digest h9 (Dig.size _) ?_)
   | (go_at_call 35; (try clear hnew); refine (node_any _ _ _ (HT.out.of hst)).mono ?_; rintro e Wn ⟨rfl, hnew⟩; replace hst := hst.keep hnew; replace hsz := Nat.le_trans hsz hnew.below.size)
   | (refine wpl_at (.store 25 (.tmp 7) (.tmp 36)) rfl ?_; refine L_storeZ rfl rfl hst rfl (by rfl) (ev_tmp rfl) (Dig.one _) el_api_Digest (Dig.size _) 1 rfl (Dig.size _) ?_; clear hst; intro WS hsz2 hst; replace hsz := Nat.le_trans hsz hsz2; simp only [List.set_cons_zero, List.set_cons_succ] at hst)
   | (first | (refine L_loadA (d := some 34) rfl rfl rfl (by rfl) Tryd.underlying25 rfl el_api_Digest (by first | exact hst.get 0 rfl | exact hst.get 1 rfl | exact hst.get 2 rfl | exact hst.get 3 rfl) (by first | rfl | exact Dig.size _ | (simp; done)) ?_) | (refine L_loadM (d := some 34) rfl rfl rfl (by rfl) Tryd.underlying25 rfl el_api_Digest (by first | assumption) (by first | rfl | exact Dig.size _ | (simp; done)) ?_))
   | (first | (refine L_loadA (d := some 35) rfl rfl rfl (by rfl) Tryd.underlying25 rfl el_api_Digest (by first | exact hst.get 0 rfl | exact hst.get 1 rfl | exact hst.get 2 rfl | exact hst.get 3 rfl) (by first | rfl | exact Dig.size _ | (simp; done)) ?_) | (refine L_loadM (d := some 35) rfl rfl rfl (by rfl) Tryd.underlying25 rfl el_api_Digest (by first | assumption) (by first | rfl | exact Dig.size _ | (simp; done)) ?_))
   | (refine wpl_at (.store 25 (.tmp 7) (.tmp 36)) rfl ?_; first | (refine L_storeA rfl rfl hst rfl (by rfl) (ev_tmp rfl) (by first | rfl | exact Dig.one _ | (simp; done)) el_api_Digest (by first | rfl | exact Dig.size _ | (simp; done)) 0 rfl (by first | rfl | exact Dig.size _ | (simp; done)) ?_; clear hst; intro WS3 hst; simp only [List.set_cons_zero, List.set_cons_succ] at hst) | (refine L_storeA rfl rfl hst rfl (by rfl) (ev_tmp rfl) (by first | rfl | exact Dig.one _ | (simp; done)) el_api_Digest (by first | rfl | exact Dig.size _ | (simp; done)) 1 rfl (by first | rfl | exact Dig.size _ | (simp; done)) ?_; clear hst; intro WS3 hst; simp only [List.set_cons_zero, List.set_cons_succ] at hst) | (refine L_storeA rfl rfl hst rfl (by rfl) (ev_tmp rfl) (by first | rfl | exact Dig.one _ | (simp; done)) el_api_Digest (by first | rfl | exact Dig.size _ | (simp; done)) 2 rfl (by first | rfl | exact Dig.size _ | (simp; done)) ?_; clear hst; intro WS3 hst; simp only [List.set_cons_zero, List.set_cons_succ] at hst) | (refine L_storeA rfl rfl hst rfl (by rfl) (ev_tmp rfl) (by first | rfl | exact Dig.one _ | (simp; done)) el_api_Digest (by first | rfl | exact Dig.size _ | (simp; done)) 3 rfl (by first | rfl | exact Dig.size _ | (simp; done)) ?_; clear hst; intro WS3 hst; simp only [List.set_cons_zero, List.set_cons_succ] at hst) | (refine L_storeM rfl rfl hst rfl (by rfl) (ev_tmp rfl) (by first | rfl | exact Dig.one _ | (simp; done)) el_api_Digest (by first | rfl | exact Dig.size _ | (simp; done)) 0 rfl (by first | exact of_decide_eq_true rfl | (simp; done)) ?_; clear hst; intro WS3 hst; simp only [List.set_cons_zero, List.set_cons_succ] at hst)  | (refine L_storeM rfl rfl hst rfl (by rfl) (ev_tmp rfl) (by first | rfl | exact Dig.one _ | (simp; done)) el_api_Digest (by first | rfl | exact Dig.size _ | (simp; done)) 1 rfl (by first | exact of_decide_eq_true rfl | (simp; done)) ?_; clear hst; intro WS3 hst; simp only [List.set_cons_zero, List.set_cons_succ] at hst)  | (refine L_storeM rfl rfl hst rfl (by rfl) (ev_tmp rfl) (by first | rfl | exact Dig.one _ | (simp; done)) el_api_Digest (by first | rfl | exact Dig.size _ | (simp; done)) 2 rfl (by first | exact of_decide_eq_true rfl | (simp; done)) ?_; clear hst; intro WS3 hst; simp only [List.set_cons_zero, List.set_cons_succ] at hst)  | (refine L_storeM rfl rfl hst rfl (by rfl) (ev_tmp rfl) (by first | rfl | exact Dig.one _ | (simp; done)) el_api_Digest (by first | rfl | exact Dig.size _ | (simp; done)) 3 rfl (by first | exact of_decide_eq_true rfl | (simp; done)) ?_; clear hst; intro WS3 hst; simp only [List.set_cons_zero, List.set_cons_succ] at hst))
   | fail)
  rw [HTT.out] at hst
  have hk := St.keepsFrom (L := [_, _, _]) hst hsz
  have hst := hst.drop (List.sublist_append_left [_, _, _] (objsOf W Wb.heap.size))
  refine ⟨hk, ⟨(hst.get 0 rfl).trans hgW.symm, fun i hi => (hst.below.block i hi).trans (hst0.below.block i hi).symm⟩, ?_⟩
  show St w _ _
  rw [HX.out]
  exact hst
end Go.Proofs.YtfpppmamkmaneaaDoor

set_option maxRecDepth 20000
set_option linter.unusedSimpArgs false
set_option linter.unusedVariables false
namespace Go.Proofs.YtfpppmamkmaneaaDoor
open Go.RowKit
def tagD (k : UInt8) : Dig := ⟨k :: List.replicate 31 0, by simp⟩
theorem tag_1 : zeroD.arr.setIfInBounds 0 (.int .u8 1) = (tagD 1).arr := by rfl
theorem tag_2 : zeroD.arr.setIfInBounds 0 (.int .u8 2) = (tagD 2).arr := by rfl
theorem node_of (a b : List Nat) (ha : small a) (hb : small b) (d e : Dig) (hd : d.l = ofNs a) (he : e.l = ofNs b) : (nodeN d e).l = ofNs (fSha (1 :: (a ++ b))) := by
 have h : (1 : UInt8) :: allB [d, e] = ofNs (1 :: (a ++ b)) := by simp [allB, hd, he, ofNs]
 unfold nodeN ofN
 rw [h]
 exact fSha_eq _ (fun x hx => by
  rcases List.mem_cons.1 hx with rfl | hx
  ·omega
  ·exact small_app ha hb x hx)
theorem tag_of (k : Nat) : (tagD (UInt8.ofNat k)).l = ofNs (k :: List.replicate 31 0) := by simp [tagD, ofNs]
theorem small_tag (k : Nat) (h : k < 256) : small (k :: List.replicate 31 0) := fun x hx => by
 rcases List.mem_cons.1 hx with rfl | hx
 ·exact h
 ·exact small_rep 31 0 (by omega) x hx
theorem node12_ne : nodeN (tagD 1) (tagD 2) ≠ zeroD :=
 ne_zero_of (node_of _ _ (small_tag 1 (by omega)) (small_tag 2 (by omega)) (tagD 1) (tagD 2) (tag_of 1) (tag_of 2)) (small_fSha _) (by decide +kernel)
theorem root12 : rootN [tagD 1, tagD 2] = nodeN (tagD 1) (tagD 2) := by
 rw [rootN_more _ (by decide), show halfN [tagD 1, tagD 2].length = 1 by decide]
 show nodeN (rootN [tagD 1]) (rootN [tagD 2]) = _
 rw [rootN_one, rootN_one]
set_option maxHeartbeats 1000000 in
theorem rooted_any (w : World) (hT : Tb w) : Calls Tryd.prog 15 #[] w fun e w' => e = .returned (.bool true) ∧ St w w' [] := by
 have hst := St.refl w
 have HT := Lib.hid hT
 have he : decide (rootN [tagD 1, tagD 2] = nodeN (tagD 1) (tagD 2)) = true := by rw [root12]; simp
 have hz : decide (rootN [tagD 1, tagD 2] = zeroD) = false := by rw [root12]; simpa using node12_ne
 have HE := Lib.hid he
 have HZ := Lib.hid hz
 have HD := Lib.hid (show digsL [tagD 1, tagD 2] = (tagD 1).arr.toList ++ (tagD 2).arr.toList by simp [digsL, Dig.toList])
 clear hT he hz
 go_enter Tryd.func15, Tryd.ntmps15
 go_wp2_with (first
  | (refine L_build1 (d := some 4) rfl rfl rfl Tryd.underlying25 el_uint8 el_api_Digest ev_const rfl (by decide) ?_; rw [tag_1])
  | (refine L_build1 (d := some 5) rfl rfl rfl Tryd.underlying25 el_uint8 el_api_Digest ev_const rfl (by decide) ?_; rw [tag_2])
  | (go_at_call 16; (try clear hnew); refine (tRoot_any [tagD 1, tagD 2] _ _ _ _ (HT.out.of hst) (by rw [HD.out]; exact hst.sl 0 rfl) (by decide)).mono ?_; rintro e W7 ⟨rfl, hnew⟩; replace hst := hst.keep hnew)
  | (refine L_build1 (d := some 4) rfl rfl rfl Tryd.underlying25 el_uint8 el_api_Digest ev_const rfl (by decide) ?_)
  | (refine L_build1 (d := some 5) rfl rfl rfl Tryd.underlying25 el_uint8 el_api_Digest ev_const rfl (by decide) ?_)
  | (refine L_buildS (d := some 6) rfl rfl rfl [_, _] (bs_2 (ev_tmp rfl) (ev_tmp rfl)) rfl Tryd.underlying22 el_api_Digest rfl (by first | (simp [Value.cells]; done) | (simp [Value.cells, Dig.size]; done)) (by decide) (by decide) ?_; (try clear hnew); intro g6 W6 hnew; replace hst := hst.trans hnew; simp only [List.cons_append, List.nil_append] at hst; simp only [List.flatMap_cons, List.flatMap_nil, List.append_nil, Value.cells, List.toList_toArray] at hst)
  | (refine L_allocA (d := some 1) rfl rfl rfl el_api_Digest ?_; (try clear hnew); intro g1 W1 hnew; replace hst := hst.trans hnew; simp only [List.cons_append, List.nil_append] at hst)
  | (refine wpl_at (.store 25 (.tmp 1) (.tmp 8)) rfl ?_; first | (refine L_storeA rfl rfl hst rfl (by rfl) (ev_tmp rfl) (by first | rfl | exact Dig.one _ | (simp; done)) el_api_Digest (by first | rfl | exact Dig.size _ | (simp; done)) 0 rfl (by first | rfl | exact Dig.size _ | (simp; done)) ?_; clear hst; intro WS8 hst; simp only [List.set_cons_zero, List.set_cons_succ] at hst) | (refine L_storeA rfl rfl hst rfl (by rfl) (ev_tmp rfl) (by first | rfl | exact Dig.one _ | (simp; done)) el_api_Digest (by first | rfl | exact Dig.size _ | (simp; done)) 1 rfl (by first | rfl | exact Dig.size _ | (simp; done)) ?_; clear hst; intro WS8 hst; simp only [List.set_cons_zero, List.set_cons_succ] at hst) | (refine L_storeA rfl rfl hst rfl (by rfl) (ev_tmp rfl) (by first | rfl | exact Dig.one _ | (simp; done)) el_api_Digest (by first | rfl | exact Dig.size _ | (simp; done)) 2 rfl (by first | rfl | exact Dig.size _ | (simp; done)) ?_; clear hst; intro WS8 hst; simp only [List.set_cons_zero, List.set_cons_succ] at hst) | (refine L_storeM rfl rfl hst rfl (by rfl) (ev_tmp rfl) (by first | rfl | exact Dig.one _ | (simp; done)) el_api_Digest (by first | rfl | exact Dig.size _ | (simp; done)) 0 rfl (by first | exact of_decide_eq_true rfl | (simp; done)) ?_; clear hst; intro WS8 hst; simp only [List.set_cons_zero, List.set_cons_succ] at hst)  | (refine L_storeM rfl rfl hst rfl (by rfl) (ev_tmp rfl) (by first | rfl | exact Dig.one _ | (simp; done)) el_api_Digest (by first | rfl | exact Dig.size _ | (simp; done)) 1 rfl (by first | exact of_decide_eq_true rfl | (simp; done)) ?_; clear hst; intro WS8 hst; simp only [List.set_cons_zero, List.set_cons_succ] at hst)  | (refine L_storeM rfl rfl hst rfl (by rfl) (ev_tmp rfl) (by first | rfl | exact Dig.one _ | (simp; done)) el_api_Digest (by first | rfl | exact Dig.size _ | (simp; done)) 2 rfl (by first | exact of_decide_eq_true rfl | (simp; done)) ?_; clear hst; intro WS8 hst; simp only [List.set_cons_zero, List.set_cons_succ] at hst))
  | fail)
 clear hnew
 refine wp_region_idx [(0, 2), (1, 2), (2, 2), (3, 0), (4, 0), (5, 2), (6, 2), (7, 2), (8, 2), (9, 2), (10, 0), (11, 2), (12, 2), (13, 2), (14, 2)] (by kernel_rfl) (by kernel_rfl) ?_
 replace hst := hst.drew
 refine idx_g rfl ?_; go_wp2_with fail; refine ⟨by first | exact Below.refl _ _ | exact hnew.below, ?_⟩
 refine idx_g rfl ?_; go_wp2_with (first | (refine L_build1 (d := some 14) rfl rfl rfl Tryd.underlying25 el_uint8 el_api_Digest ev_const rfl (by decide) ?_; rw [tag_1]) | (refine L_build1 (d := some 15) rfl rfl rfl Tryd.underlying25 el_uint8 el_api_Digest ev_const rfl (by decide) ?_; rw [tag_2]) | (go_at_call 35; (try clear hnew); with_reducible refine (node_any _ _ _ (HT.out.of hst)).mono ?_; rintro e W16 ⟨rfl, hnew⟩; replace hst := hst.keep hnew) | fail); refine ⟨by first | exact Below.refl _ _ | exact hnew.below, ?_⟩
 refine idx_g rfl ?_; go_wp2_with fail; refine ⟨by first | exact Below.refl _ _ | exact hnew.below, ?_⟩
 refine idx_q rfl rfl ?_; go_wp2_with (first | (refine L_un (t := 13) rfl (by rfl) rfl ?_) | (first | (refine L_loadA (d := some 13) rfl rfl rfl (by rfl) Tryd.underlying25 rfl el_api_Digest (by first | exact hst.get 0 rfl | exact hst.get 1 rfl) (by first | rfl | exact Dig.size _ | (simp; done)) ?_) | (refine L_loadM (d := some 13) rfl rfl rfl (by rfl) Tryd.underlying25 rfl el_api_Digest (by first | assumption) (by first | rfl | exact Dig.size _ | (simp; done)) ?_)) | fail)
 refine idx_q rfl rfl ?_; go_wp2_with (first | (refine L_un (t := 14) rfl (by rfl) rfl ?_) | (refine L_build1 (d := some 14) rfl rfl rfl Tryd.underlying25 el_uint8 el_api_Digest ev_const rfl (by decide) ?_; rw [tag_1]) | (refine L_build1 (d := some 14) rfl rfl rfl Tryd.underlying25 el_uint8 el_api_Digest ev_const rfl (by decide) ?_) | fail)
 refine idx_g rfl ?_; go_wp2_with (first | (refine L_un (t := 15) rfl (by rfl) rfl ?_) | (refine L_build1 (d := some 15) rfl rfl rfl Tryd.underlying25 el_uint8 el_api_Digest ev_const rfl (by decide) ?_; rw [tag_2]) | (refine L_build1 (d := some 15) rfl rfl rfl Tryd.underlying25 el_uint8 el_api_Digest ev_const rfl (by decide) ?_) | fail); refine ⟨by first | exact Below.refl _ _ | exact hnew.below, ?_⟩
 refine idx_g rfl ?_; go_wp2_with (first | (refine L_un (t := 16) rfl (by rfl) rfl ?_) | (refine L_build1 (d := some 14) rfl rfl rfl Tryd.underlying25 el_uint8 el_api_Digest ev_const rfl (by decide) ?_; rw [tag_1]) | (refine L_build1 (d := some 15) rfl rfl rfl Tryd.underlying25 el_uint8 el_api_Digest ev_const rfl (by decide) ?_; rw [tag_2]) | (go_at_call 35; (try clear hnew); with_reducible refine (node_any _ _ _ (HT.out.of hst)).mono ?_; rintro e W16 ⟨rfl, hnew⟩; replace hst := hst.keep hnew) | fail); refine ⟨by first | exact Below.refl _ _ | exact hnew.below, ?_⟩
 refine idx_g rfl ?_; go_wp2_with (first | (refine L_un (t := 17) rfl (by rfl) rfl ?_) | (refine L_build1 (d := some 14) rfl rfl rfl Tryd.underlying25 el_uint8 el_api_Digest ev_const rfl (by decide) ?_; rw [tag_1]) | (refine L_build1 (d := some 15) rfl rfl rfl Tryd.underlying25 el_uint8 el_api_Digest ev_const rfl (by decide) ?_; rw [tag_2]) | (go_at_call 35; (try clear hnew); with_reducible refine (node_any _ _ _ (HT.out.of hst)).mono ?_; rintro e W16 ⟨rfl, hnew⟩; replace hst := hst.keep hnew) | (refine L_eqD (d := some 17) rfl rfl rfl Tryd.underlying25 Tryd.underlying5 el_uint8 eqG_D (ev_tmp rfl) (ev_tmp rfl) ?_; (try rw [HE.out]); (try rw [HZ.out])) | fail); refine ⟨by first | exact Below.refl _ _ | exact hnew.below, ?_⟩
 refine idx_g rfl ?_; go_wp2_with fail; refine ⟨by first | exact Below.refl _ _ | exact hnew.below, ?_⟩
 refine idx_g rfl ?_; go_wp2_with fail; refine ⟨by first | exact Below.refl _ _ | exact hnew.below, ?_⟩
 refine idx_q rfl rfl ?_; go_wp2_with (first | (refine L_un (t := 20) rfl (by rfl) rfl ?_) | (first | (refine L_loadA (d := some 20) rfl rfl rfl (by rfl) Tryd.underlying25 rfl el_api_Digest (by first | exact hst.get 0 rfl | exact hst.get 1 rfl) (by first | rfl | exact Dig.size _ | (simp; done)) ?_) | (refine L_loadM (d := some 20) rfl rfl rfl (by rfl) Tryd.underlying25 rfl el_api_Digest (by first | assumption) (by first | rfl | exact Dig.size _ | (simp; done)) ?_)) | fail)
 refine idx_g rfl ?_; go_wp2_with (first | (refine L_un (t := 21) rfl (by rfl) rfl ?_) | (refine L_build0 (d := some 21) rfl rfl rfl Tryd.underlying25 el_uint8 el_api_Digest ?_) | fail); refine ⟨by first | exact Below.refl _ _ | exact hnew.below, ?_⟩
 refine idx_g rfl ?_; go_wp2_with (first | (refine L_un (t := 22) rfl (by rfl) rfl ?_) | (refine L_build1 (d := some 14) rfl rfl rfl Tryd.underlying25 el_uint8 el_api_Digest ev_const rfl (by decide) ?_; rw [tag_1]) | (refine L_build1 (d := some 15) rfl rfl rfl Tryd.underlying25 el_uint8 el_api_Digest ev_const rfl (by decide) ?_; rw [tag_2]) | (go_at_call 35; (try clear hnew); with_reducible refine (node_any _ _ _ (HT.out.of hst)).mono ?_; rintro e W16 ⟨rfl, hnew⟩; replace hst := hst.keep hnew) | (refine L_neD (d := some 22) rfl rfl rfl Tryd.underlying25 Tryd.underlying5 el_uint8 eqG_D (ev_tmp rfl) (ev_tmp rfl) ?_; (try rw [HE.out]); (try rw [HZ.out])) | fail); refine ⟨by first | exact Below.refl _ _ | exact hnew.below, ?_⟩
 refine idx_g rfl ?_; go_wp2_with fail; refine ⟨by first | exact Below.refl _ _ | exact hnew.below, ?_⟩
 refine idx_g rfl ?_; go_wp2_with fail; refine ⟨by first | exact Below.refl _ _ | exact hnew.below, ?_⟩
 refine idx_nil ?_
 go_wp2_with fail
 go_ret
 exact ⟨rfl, hst.forget⟩
end Go.Proofs.YtfpppmamkmaneaaDoor

set_option maxRecDepth 20000
set_option linter.unusedSimpArgs false
set_option linter.unusedVariables false
namespace Go.Proofs.YtfpppmamkmaneaaDoor
open Go.RowKit
set_option maxHeartbeats 1000000 in
theorem rones_any (n : Nat) (hn : n ≤ 1073741824) (w : World) : Calls Tryd.prog 27 #[.int .i64 (n : Int)] w fun e w' => e = .returned (.int .i64 (onesN n : Int)) ∧ St w w' [] := by
 have hst := St.refl w
 have HLE := Lib.hid (onesN_le n)
 go_enter Tryd.func27, Tryd.ntmps27
 go_wp2_with (first
  | fail)
 go_loopg [0, 3] n (fun gk s0 s3 wr => ∃ (k c : Nat), Hid (k = gk) ∧ Hid (c + onesN k = onesN n) ∧ k ≤ 1073741824 ∧ c ≤ 1073741824 ∧ s0 = .int .i64 (k : Int) ∧ s3 = .int .i64 (c : Int) ∧ St w wr [])
 case atStart => exact ⟨n, 0, Lib.hid rfl, Lib.hid (by omega), hn, by omega, rfl, rfl, hst⟩
 case round =>
  clear hst
  obtain ⟨k, c, HK, HC, hk, hc, rfl, rfl, hst⟩ := hrel
  by_cases h0 : 0 < k
  ·have HC2 := Lib.hid (show c + k % 2 + onesN (k / 2) = onesN n by rw [← HC.out, onesN_pos (n := k) (by omega), Nat.add_assoc])
   have hb : c + k % 2 ≤ 1073741824 := by have := HC2.out; have := HLE.out; omega
   go_wp2_with (first
    | fail)
   go_roundg (k / 2)
   case measure => have := HK.out; omega
   case rel => exact ⟨k / 2, c + k % 2, Lib.hid rfl, HC2, by omega, hb, by go_num, by go_num, hst⟩
  ·obtain rfl : k = 0 := by omega
   have HC2 := Lib.hid (show c = onesN n by have := HC.out; rw [onesN_zero] at this; omega)
   clear h0
   go_wp2_with (first
    | fail)
   go_ret
   exact ⟨by rw [HC2.out]; rfl, hst⟩
set_option maxHeartbeats 4000000 in
theorem rgrown_any (n : Nat) (hn : n ≤ 1073741824) (ps : List Dig) (l : Dig) (A : Option Addr) (m c : Nat) (w : World) (hx : SlR w A m c 32 (digsL ps)) (hm : m = onesN n) :
  Calls Tryd.prog 37 #[.int .i64 (n : Int), .slice A m c, l.v] w fun e w' => ∃ O q oc, e = .returned (.slice O q oc) ∧ St w w' [.row O q oc 25 32 (digsL (grownN n ps l))] := by
 have hst := St.refl w
 have hl : ps.length = m := by have := hx.1; rw [length_digsL] at this; omega
 have hcap := hx.2.1
 have hb : m ≤ 31 := by rw [hm]; exact onesN_bits 31 n (by omega)
 obtain ⟨R, hR⟩ : ∃ R, grownN n ps l = R := ⟨_, rfl⟩
 rw [hR]
 have HR := Lib.hid hR
 clear hR
 have HM := Lib.hid (show ps.length = onesN n by omega)
 clear hm
 go_enter Tryd.func37, Tryd.ntmps37
 go_wp2_with (first
  | (refine L_boxA (d := some 5) rfl rfl rfl (ev_tmp rfl) ?_; (try clear hnew); intro g5 W5 hnew; replace hst := hst.trans hnew; simp only [List.cons_append, List.nil_append] at hst)
  | (refine L_buildS (d := some 8) rfl rfl rfl [] (bs_0 ) rfl Tryd.underlying22 el_api_Digest rfl (by first | (simp [Value.cells]; done) | (simp [Value.cells, Dig.size]; done)) (by decide) (by decide) ?_; (try clear hnew); intro g8 W8 hnew; replace hst := hst.trans hnew; simp only [List.cons_append, List.nil_append] at hst; simp only [List.flatMap_cons, List.flatMap_nil, List.append_nil, Value.cells, List.toList_toArray] at hst)
  | (refine L_appendO (d := some 10) rfl rfl hst rfl (by rfl) (by rfl) Tryd.underlying22 el_api_Digest rfl (by decide) (by decide) 0 rfl (by first | rfl | omega) (by first | exact hx | exact hst.sl 0 rfl | exact hst.sl 1 rfl | exact hst.sl 2 rfl | assumption | exact hst.old (by decide) (by assumption)) (by first | exact oneCell_bytes | (simp [Value.oneCell']; done) | exact digsL_one) (by omega) ?_; clear hst; intro A10 c10 W10 hst; simp only [List.set_cons_zero, List.set_cons_succ, List.nil_append, Nat.zero_add] at hst)
  | (refine L_appendO (d := some 10) rfl rfl hst rfl (by rfl) (by rfl) Tryd.underlying22 el_api_Digest rfl (by decide) (by decide) 1 rfl (by first | rfl | omega) (by first | exact hx | exact hst.sl 0 rfl | exact hst.sl 1 rfl | exact hst.sl 2 rfl | assumption | exact hst.old (by decide) (by assumption)) (by first | exact oneCell_bytes | (simp [Value.oneCell']; done) | exact digsL_one) (by omega) ?_; clear hst; intro A10 c10 W10 hst; simp only [List.set_cons_zero, List.set_cons_succ, List.nil_append, Nat.zero_add] at hst)
  | (refine L_appendO (d := some 10) rfl rfl hst rfl (by rfl) (by rfl) Tryd.underlying22 el_api_Digest rfl (by decide) (by decide) 2 rfl (by first | rfl | omega) (by first | exact hx | exact hst.sl 0 rfl | exact hst.sl 1 rfl | exact hst.sl 2 rfl | assumption | exact hst.old (by decide) (by assumption)) (by first | exact oneCell_bytes | (simp [Value.oneCell']; done) | exact digsL_one) (by omega) ?_; clear hst; intro A10 c10 W10 hst; simp only [List.set_cons_zero, List.set_cons_succ, List.nil_append, Nat.zero_add] at hst)
  | (refine L_appendF (d := some 10) rfl rfl rfl (by rfl) (by rfl) Tryd.underlying22 el_api_Digest rfl (by decide) (by assumption) (by first | assumption | exact hx | exact hst.sl 0 rfl | exact hst.sl 1 rfl | exact hst.sl 2 rfl | assumption | exact hst.old (by decide) (by assumption)) (by omega) (by omega) (by omega) ?_; (try clear hnew); intro A10 c10 W10 hnew; replace hst := hst.trans hnew; simp only [List.cons_append, List.nil_append] at hst)
  | fail)
 (try clear hnew)
 go_loopg [0, 7] n (fun gk s0 s7 wr => ∃ (k : Nat) (qs : List Dig) (x : Dig) (O : Option Addr) (oc : Nat), Hid (k = gk) ∧ Hid (grownN k qs x = R) ∧ Hid (qs.length = onesN k) ∧ k ≤ 1073741824 ∧ qs.length ≤ 31 ∧ s0 = .int .i64 (k : Int) ∧ s7 = .slice O qs.length oc ∧ St w wr [.row O qs.length oc 25 32 (digsL qs), .blk g5 25 x.arr])
 case atStart => exact ⟨n, ps, l, A10, c10, Lib.hid rfl, HR, HM, hn, by omega, rfl, by rw [hl], by rw [hl]; exact hst⟩
 case round =>
  clear hst
  obtain ⟨k, qs, x, O, oc, HK, HG, HN, hk, hq, rfl, rfl, hst⟩ := hrel
  have hoc := (hst.sl 0 rfl).2.1
  by_cases hodd : k % 2 = 1
  ·obtain ⟨q, d, rfl, hql⟩ := last_of (k := onesN (k / 2)) (by rw [HN.out, onesN_odd hodd])
   rw [List.length_append, List.length_singleton] at hst hq hoc ⊢
   have HG2 := Lib.hid (show grownN (k / 2) q (nodeN d x) = R by rw [← HG.out, grownN_odd hodd])
   obtain ⟨r, hr⟩ : ∃ r, r = q.length := ⟨_, rfl⟩
   rw [← hr] at hst hq hoc hql ⊢
   have HQL := Lib.hid hql
   have HRQ := Lib.hid hr
   have HP := Lib.hid (show ((digsL (q ++ [d])).drop ((r : Int).toNat * 32)).take 32 = d.arr.toList by rw [Int.toNat_natCast, digsL_append, digsL_single, hr, List.drop_left' (by rw [length_digsL]), List.take_of_length_le (by rw [Array.length_toList, Dig.size]; exact Nat.le_refl _)])
   have HC := Lib.hid (show ((digsL (q ++ [d])).drop (0 * 32)).take ((r - 0) * 32) = digsL q by rw [digsL_cut, List.drop_zero, Nat.sub_zero, List.take_left' hr.symm])
   clear hr hql HG HN
   generalize digsL (q ++ [d]) = lqd at *
   go_wp2_with (first
    | fail)
   refine wp_region_idx [(0, 0), (1, 0), (2, 0), (3, 0), (4, 0), (5, 0), (6, 2), (7, 2), (8, 1)] (by kernel_rfl) (by kernel_rfl) ?_
   replace hst := hst.drew
   refine idx_q rfl rfl ?_; go_wp2_with fail
   refine idx_q rfl rfl ?_; go_wp2_with fail
   refine idx_q rfl rfl ?_; go_wp2_with (first | (refine L_loadM (d := some 19) rfl rfl rfl (by rfl) Tryd.underlying25 rfl el_api_Digest (cs := d.arr) (by rw [← HP.out]; exact hr18) (Dig.size _) ?_) | (go_at_call 36; (try clear hnew); with_reducible refine (rnode_any _ _ _).mono ?_; rintro e Wk1 ⟨rfl, hnew⟩; replace hst := hst.keep hnew) | fail)
   refine idx_q rfl rfl ?_; go_wp2_with fail
   refine idx_q rfl rfl ?_; go_wp2_with (first | (refine L_idxS (d := some 18) rfl rfl rfl (by rfl) (by rfl) Tryd.underlying22 el_api_Digest (by first | assumption | exact hst.sl 0 rfl | exact hst.sl 1 rfl | exact hst.old (by decide) (by assumption)) (by omega) (by omega) ?_; intro o18 p18 ha18 hr18; (first | subst ha18 | (obtain ⟨h1, h2⟩ := some_addr ha18; subst h1; subst h2; clear ha18) | skip)) | fail)
   refine idx_q rfl rfl ?_; go_wp2_with (first | (refine L_loadM (d := some 19) rfl rfl rfl (by rfl) Tryd.underlying25 rfl el_api_Digest (cs := d.arr) (by rw [← HP.out]; exact hr18) (Dig.size _) ?_) | (first | (refine L_loadA (d := some 19) rfl rfl rfl (by rfl) Tryd.underlying25 rfl el_api_Digest (by first | exact hst.get 0 rfl | exact hst.get 1 rfl) (by first | rfl | exact Dig.size _ | (simp; done)) ?_) | (refine L_loadM (d := some 19) rfl rfl rfl (by rfl) Tryd.underlying25 rfl el_api_Digest (by first | assumption) (by first | rfl | exact Dig.size _ | (simp; done)) ?_)) | fail)
   refine idx_g rfl ?_; go_wp2_with (first | (first | (refine L_loadA (d := some 20) rfl rfl rfl (by rfl) Tryd.underlying25 rfl el_api_Digest (by first | exact hst.get 0 rfl | exact hst.get 1 rfl) (by first | rfl | exact Dig.size _ | (simp; done)) ?_) | (refine L_loadM (d := some 20) rfl rfl rfl (by rfl) Tryd.underlying25 rfl el_api_Digest (by first | assumption) (by first | rfl | exact Dig.size _ | (simp; done)) ?_)) | fail); refine ⟨by first | exact Below.refl _ _ | exact hnew.below, ?_⟩
   refine idx_g rfl ?_; go_wp2_with (first | (refine L_loadM (d := some 19) rfl rfl rfl (by rfl) Tryd.underlying25 rfl el_api_Digest (cs := d.arr) (by rw [← HP.out]; exact hr18) (Dig.size _) ?_) | (go_at_call 36; (try clear hnew); with_reducible refine (rnode_any _ _ _).mono ?_; rintro e Wk1 ⟨rfl, hnew⟩; replace hst := hst.keep hnew) | fail); refine ⟨by first | exact Below.refl _ _ | exact hnew.below, ?_⟩
   refine idx_e rfl ?_; go_wp2_with (first | (refine wpl_at (.store 25 (.tmp 5) (.tmp 21)) rfl ?_; first | (refine L_storeA rfl rfl hst rfl (by rfl) (ev_tmp rfl) (by first | rfl | exact Dig.one _ | (simp; done)) el_api_Digest (by first | rfl | exact Dig.size _ | (simp; done)) 0 rfl (by first | rfl | exact Dig.size _ | (simp; done)) ?_; clear hst; intro WS8 hst; simp only [List.set_cons_zero, List.set_cons_succ] at hst) | (refine L_storeA rfl rfl hst rfl (by rfl) (ev_tmp rfl) (by first | rfl | exact Dig.one _ | (simp; done)) el_api_Digest (by first | rfl | exact Dig.size _ | (simp; done)) 1 rfl (by first | rfl | exact Dig.size _ | (simp; done)) ?_; clear hst; intro WS8 hst; simp only [List.set_cons_zero, List.set_cons_succ] at hst) | (refine L_storeM rfl rfl hst rfl (by rfl) (ev_tmp rfl) (by first | rfl | exact Dig.one _ | (simp; done)) el_api_Digest (by first | rfl | exact Dig.size _ | (simp; done)) 0 rfl (by first | exact of_decide_eq_true rfl | (simp; done)) ?_; clear hst; intro WS8 hst; simp only [List.set_cons_zero, List.set_cons_succ] at hst)  | (refine L_storeM rfl rfl hst rfl (by rfl) (ev_tmp rfl) (by first | rfl | exact Dig.one _ | (simp; done)) el_api_Digest (by first | rfl | exact Dig.size _ | (simp; done)) 1 rfl (by first | exact of_decide_eq_true rfl | (simp; done)) ?_; clear hst; intro WS8 hst; simp only [List.set_cons_zero, List.set_cons_succ] at hst)) | fail)
   refine idx_nil ?_
   (try clear hnew)
   go_wp2_with (first
    | (first | (refine L_cutO (d := some 26) rfl rfl hst rfl (by rfl) Tryd.underlying22 el_api_Digest 0 rfl (by first | rfl | omega) 0 r _ (Or.inl ⟨rfl, rfl⟩) (Or.inr ⟨_, _, rfl, by first | exact ev_tmp rfl | (rw [ev_tmp rfl]; congr 1; omega)⟩) (Or.inl ⟨rfl, rfl⟩) (by omega) (by omega) (by omega) (by omega) ?_; clear hst; intro A26 c26 hst; simp only [List.set_cons_zero, List.set_cons_succ] at hst) | (refine L_cutO (d := some 26) rfl rfl hst rfl (by rfl) Tryd.underlying22 el_api_Digest 1 rfl (by first | rfl | omega) 0 r _ (Or.inl ⟨rfl, rfl⟩) (Or.inr ⟨_, _, rfl, by first | exact ev_tmp rfl | (rw [ev_tmp rfl]; congr 1; omega)⟩) (Or.inl ⟨rfl, rfl⟩) (by omega) (by omega) (by omega) (by omega) ?_; clear hst; intro A26 c26 hst; simp only [List.set_cons_zero, List.set_cons_succ] at hst) | (refine L_cutS (d := some 26) rfl rfl rfl (by rfl) Tryd.underlying22 el_api_Digest (by decide) (by first | assumption | exact hst.old (by decide) (by assumption) | exact hst.sl 0 rfl | exact hst.sl 1 rfl) 0 r _ (Or.inl ⟨rfl, rfl⟩) (Or.inr ⟨_, _, rfl, by first | exact ev_tmp rfl | (rw [ev_tmp rfl]; congr 1; omega)⟩) (Or.inl ⟨rfl, rfl⟩) (by omega) (by omega) (by omega) (by omega) ?_; intro A26 c26 hs26))
    | fail)
   go_roundg (k / 2)
   case measure => have := HK.out; omega
   case rel =>
    have hrq := HRQ.out
    subst hrq
    refine ⟨k / 2, q, nodeN d x, _, _, Lib.hid rfl, HG2, HQL, by omega, by omega, by go_num, by first | rfl | assumption, ?_⟩
    rw [HC.out] at hst
    simpa using hst
  ·have HG2 := Lib.hid (show digsL qs ++ x.arr.toList = digsL R by rw [← HG.out, grownN_even hodd, digsL_append, digsL_single, Dig.toList])
   clear HG HN
   go_wp2_with (first
    | (first | (refine L_loadA (d := some 30) rfl rfl rfl (by rfl) Tryd.underlying25 rfl el_api_Digest (by first | exact hst.get 0 rfl | exact hst.get 1 rfl | exact hst.get 2 rfl) (by first | rfl | exact Dig.size _ | (simp; done)) ?_) | (refine L_loadM (d := some 30) rfl rfl rfl (by rfl) Tryd.underlying25 rfl el_api_Digest (by first | assumption) (by first | rfl | exact Dig.size _ | (simp; done)) ?_))
    | (refine L_buildS (d := some 31) rfl rfl rfl [_] (bs_1 (ev_tmp rfl)) rfl Tryd.underlying22 el_api_Digest rfl (by first | (simp [Value.cells]; done) | (simp [Value.cells, Dig.size]; done)) (by decide) (by decide) ?_; (try clear hnew); intro g31 W31 hnew; replace hst := hst.trans hnew; simp only [List.cons_append, List.nil_append] at hst; simp only [List.flatMap_cons, List.flatMap_nil, List.append_nil, Value.cells, List.toList_toArray] at hst)
    | (refine L_appendO (d := some 32) rfl rfl hst rfl (by rfl) (by rfl) Tryd.underlying22 el_api_Digest rfl (by decide) (by decide) 0 rfl (by first | rfl | omega) (by first | exact hst.sl 0 rfl | exact hst.sl 1 rfl | exact hst.sl 2 rfl | assumption | exact hst.old (by decide) (by assumption)) (by first | exact oneCell_bytes | (simp [Value.oneCell']; done) | exact dig_oneR _) (by omega) ?_; clear hst; intro A32 c32 W32 hst; simp only [List.set_cons_zero, List.set_cons_succ, List.nil_append, Nat.zero_add] at hst)
    | (refine L_appendO (d := some 32) rfl rfl hst rfl (by rfl) (by rfl) Tryd.underlying22 el_api_Digest rfl (by decide) (by decide) 1 rfl (by first | rfl | omega) (by first | exact hst.sl 0 rfl | exact hst.sl 1 rfl | exact hst.sl 2 rfl | assumption | exact hst.old (by decide) (by assumption)) (by first | exact oneCell_bytes | (simp [Value.oneCell']; done) | exact dig_oneR _) (by omega) ?_; clear hst; intro A32 c32 W32 hst; simp only [List.set_cons_zero, List.set_cons_succ, List.nil_append, Nat.zero_add] at hst)
    | (refine L_appendO (d := some 32) rfl rfl hst rfl (by rfl) (by rfl) Tryd.underlying22 el_api_Digest rfl (by decide) (by decide) 2 rfl (by first | rfl | omega) (by first | exact hst.sl 0 rfl | exact hst.sl 1 rfl | exact hst.sl 2 rfl | assumption | exact hst.old (by decide) (by assumption)) (by first | exact oneCell_bytes | (simp [Value.oneCell']; done) | exact dig_oneR _) (by omega) ?_; clear hst; intro A32 c32 W32 hst; simp only [List.set_cons_zero, List.set_cons_succ, List.nil_append, Nat.zero_add] at hst)
    | (refine L_appendF (d := some 32) rfl rfl rfl (by rfl) (by rfl) Tryd.underlying22 el_api_Digest rfl (by decide) (by assumption) (by first | assumption | exact hst.sl 0 rfl | exact hst.sl 1 rfl | exact hst.sl 2 rfl | assumption | exact hst.old (by decide) (by assumption)) (by omega) (by omega) (by omega) ?_; (try clear hnew); intro A32 c32 W32 hnew; replace hst := hst.trans hnew; simp only [List.cons_append, List.nil_append] at hst)
    | fail)
   go_ret
   refine ⟨_, _, _, rfl, ?_⟩
   rw [← HG2.out]
   first | exact hst.pick [0] (by decide) | exact hst.pick [1] (by decide)
set_option maxHeartbeats 4000000 in
theorem rbag_any : ∀ (n : Nat) (ps : List Dig) (A : Option Addr) (c : Nat) (w : World), SlR w A n c 32 (digsL ps) →
  Calls Tryd.prog 38 #[.slice A n c] w fun e w' => e = .returned (bagN ps).v ∧ St w w' [] := by
 intro n
 induction n with
 | zero =>
  intro ps A c w hx
  have hst := St.refl w
  have hl : ps.length = 0 := by have := hx.1; rw [length_digsL] at this; omega
  obtain rfl : ps = [] := List.eq_nil_of_length_eq_zero hl
  go_enter Tryd.func38, Tryd.ntmps38
  go_wp2_with (first
   | (go_at_call 64; (try clear hnew); refine (rsum_any [] none 0 0 _ (SlR.nil_ _ 1) (by decide)).mono ?_; rintro e Wk2 ⟨rfl, hnew⟩; replace hst := hst.keep hnew)
   | (refine L_allocA (d := some 2) rfl rfl rfl el_api_Digest ?_; (try clear hnew); intro g2 W2 hnew; replace hst := hst.trans hnew; simp only [List.cons_append, List.nil_append] at hst)
   | (refine wpl_at (.store 25 (.tmp 2) (.tmp 6)) rfl ?_; first | (refine L_storeA rfl rfl hst rfl (by rfl) (ev_tmp rfl) (by first | rfl | exact Dig.one _ | (simp; done)) el_api_Digest (by first | rfl | exact Dig.size _ | (simp; done)) 0 rfl (by first | rfl | exact Dig.size _ | (simp; done)) ?_; clear hst; intro WS1 hst; simp only [List.set_cons_zero, List.set_cons_succ] at hst) | (refine L_storeM rfl rfl hst rfl (by rfl) (ev_tmp rfl) (by first | rfl | exact Dig.one _ | (simp; done)) el_api_Digest (by first | rfl | exact Dig.size _ | (simp; done)) 0 rfl (by first | exact of_decide_eq_true rfl | (simp; done)) ?_; clear hst; intro WS1 hst; simp only [List.set_cons_zero, List.set_cons_succ] at hst))
   | fail)
  refine bp_cell rfl rfl rfl (hst.get 0 rfl) Tryd.underlying25 rfl el_api_Digest (by first | rfl | exact Dig.size _ | (simp; done)) ?_
  exact ⟨rfl, hst.forget⟩
 | succ n ih =>
  intro ps A c w hx
  have hst := St.refl w
  have hl : ps.length = n + 1 := by have := hx.1; rw [length_digsL] at this; omega
  have hcap := hx.2.1
  have hmax := hx.2.2.1
  simp only [maxLen] at hmax
  obtain ⟨d, r, rfl⟩ : ∃ d r, ps = d :: r := by
   match ps, hl with
   | d :: r, _ => exact ⟨d, r, rfl⟩
  have hr : r.length = n := by simpa using hl
  have HL := Lib.hid (show ((digsL (d :: r)).drop ((0 : Int).toNat * 32)).take 32 = d.arr.toList by rw [Dig.toList]; exact digsL_at (d :: r) 0 (by simp))
  by_cases h1 : n = 0
  ·subst h1
   obtain rfl : r = [] := List.eq_nil_of_length_eq_zero hr
   clear ih hl hr
   go_enter Tryd.func38, Tryd.ntmps38
   go_wp2_with (first
    | (refine L_loadM (d := some 12) rfl rfl rfl (by rfl) Tryd.underlying25 rfl el_api_Digest (cs := d.arr) (by rw [← HL.out]; exact hr11) (Dig.size _) ?_)
    | (refine L_allocA (d := some 2) rfl rfl rfl el_api_Digest ?_; (try clear hnew); intro g2 W2 hnew; replace hst := hst.trans hnew; simp only [List.cons_append, List.nil_append] at hst)
    | (refine L_idxS (d := some 11) rfl rfl rfl (by rfl) (by rfl) Tryd.underlying22 el_api_Digest (by first | exact hst.old (by decide) hx | assumption | exact hst.sl 0 rfl | exact hst.old (by decide) (by assumption)) (by omega) (by omega) ?_; intro o11 p11 ha11 hr11; (first | subst ha11 | (obtain ⟨h1, h2⟩ := some_addr ha11; subst h1; subst h2; clear ha11) | skip))
    | (first | (refine L_loadA (d := some 12) rfl rfl rfl (by rfl) Tryd.underlying25 rfl el_api_Digest (by first | exact hst.get 0 rfl) (by first | rfl | exact Dig.size _ | (simp; done)) ?_) | (refine L_loadM (d := some 12) rfl rfl rfl (by rfl) Tryd.underlying25 rfl el_api_Digest (by first | assumption) (by first | rfl | exact Dig.size _ | (simp; done)) ?_))
    | (refine wpl_at (.store 25 (.tmp 2) (.tmp 12)) rfl ?_; first | (refine L_storeA rfl rfl hst rfl (by rfl) (ev_tmp rfl) (by first | rfl | exact Dig.one _ | (simp; done)) el_api_Digest (by first | rfl | exact Dig.size _ | (simp; done)) 0 rfl (by first | rfl | exact Dig.size _ | (simp; done)) ?_; clear hst; intro WS3 hst; simp only [List.set_cons_zero, List.set_cons_succ] at hst) | (refine L_storeM rfl rfl hst rfl (by rfl) (ev_tmp rfl) (by first | rfl | exact Dig.one _ | (simp; done)) el_api_Digest (by first | rfl | exact Dig.size _ | (simp; done)) 0 rfl (by first | exact of_decide_eq_true rfl | (simp; done)) ?_; clear hst; intro WS3 hst; simp only [List.set_cons_zero, List.set_cons_succ] at hst))
    | fail)
   refine bp_cell rfl rfl rfl (hst.get 0 rfl) Tryd.underlying25 rfl el_api_Digest (by first | rfl | exact Dig.size _ | (simp; done)) ?_
   exact ⟨rfl, hst.forget⟩
  ·have HB := Lib.hid (show bagN (d :: r) = nodeN d (bagN r) from bagN_cons d (fun e => by rw [e] at hr; simp at hr; omega))
   have HC := Lib.hid (show ((digsL (d :: r)).drop (1 * 32)).take ((n + 1 - 1) * 32) = digsL r by rw [digsL_cut, Nat.add_sub_cancel, ← hr]; simp)
   have HI := Lib.hid (fun A c w hs => ih r A c w hs)
   have h0' : ¬ ((n : Int) + 1 = 0) := by omega
   have h1' : ¬ ((n : Int) + 1 = 1) := by omega
   rw [HB.out]
   clear ih hl hr h1 HB
   generalize bagN r = b at *
   generalize digsL (d :: r) = lx at *
   generalize digsL r = lr at *
   go_enter Tryd.func38, Tryd.ntmps38
   go_wp2_with (first
    | (refine L_allocA (d := some 2) rfl rfl rfl el_api_Digest ?_; (try clear hnew); intro g2 W2 hnew; replace hst := hst.trans hnew; simp only [List.cons_append, List.nil_append] at hst)
    | fail)
   (try clear hnew)
   refine wp_region_idx [(0, 0), (1, 0), (2, 0), (3, 2), (4, 2), (5, 2), (6, 2), (7, 1)] (by kernel_rfl) (by kernel_rfl) ?_
   replace hst := hst.drew
   refine idx_q rfl rfl ?_; go_wp2_with fail
   refine idx_q rfl rfl ?_; go_wp2_with (first | (refine L_idxS (d := some 14) rfl rfl rfl (by rfl) (by rfl) Tryd.underlying22 el_api_Digest (by first | exact hst.old (by decide) hx | assumption | exact hst.sl 0 rfl | exact hst.old (by decide) (by assumption)) (by omega) (by omega) ?_; intro o14 p14 ha14 hr14; (first | subst ha14 | (obtain ⟨h1, h2⟩ := some_addr ha14; subst h1; subst h2; clear ha14) | skip)) | fail)
   refine idx_q rfl rfl ?_; go_wp2_with (first | (refine L_loadM (d := some 15) rfl rfl rfl (by rfl) Tryd.underlying25 rfl el_api_Digest (cs := d.arr) (by rw [← HL.out]; exact hr14) (Dig.size _) ?_) | (first | (refine L_loadA (d := some 15) rfl rfl rfl (by rfl) Tryd.underlying25 rfl el_api_Digest (by first | exact hst.get 0 rfl) (by first | rfl | exact Dig.size _ | (simp; done)) ?_) | (refine L_loadM (d := some 15) rfl rfl rfl (by rfl) Tryd.underlying25 rfl el_api_Digest (by first | assumption) (by first | rfl | exact Dig.size _ | (simp; done)) ?_)) | fail)
   refine idx_g rfl ?_; go_wp2_with fail; refine ⟨by first | exact Below.refl _ _ | exact hnew.below, ?_⟩
   refine idx_g rfl ?_; go_wp2_with (first | (first | (refine L_cutV (d := some 17) rfl rfl rfl (by rfl) Tryd.underlying22 el_api_Digest (by decide) hx 1 (n+1) _ (Or.inr ⟨_, _, rfl, rfl⟩) (Or.inl ⟨rfl, rfl, rfl⟩) (Or.inl ⟨rfl, rfl⟩) (by omega) (by omega) (by omega) (by omega) ?_; intro A17 c17 hs17) | (refine L_cutO (d := some 17) rfl rfl hst rfl (by rfl) Tryd.underlying22 el_api_Digest 0 rfl (by first | rfl | omega) 1 (n+1) _ (Or.inr ⟨_, _, rfl, rfl⟩) (Or.inl ⟨rfl, rfl, rfl⟩) (Or.inl ⟨rfl, rfl⟩) (by omega) (by omega) (by omega) (by omega) ?_; clear hst; intro A17 c17 hst; simp only [List.set_cons_zero, List.set_cons_succ] at hst) | (refine L_cutS (d := some 17) rfl rfl rfl (by rfl) Tryd.underlying22 el_api_Digest (by decide) (by first | exact hst.old (by decide) hx | assumption | exact hst.old (by decide) (by assumption) | exact hst.sl 0 rfl) 1 (n+1) _ (Or.inr ⟨_, _, rfl, rfl⟩) (Or.inl ⟨rfl, rfl, rfl⟩) (Or.inl ⟨rfl, rfl⟩) (by omega) (by omega) (by omega) (by omega) ?_; intro A17 c17 hs17)) | fail); refine ⟨by first | exact Below.refl _ _ | exact hnew.below, ?_⟩
   refine idx_g rfl ?_; go_wp2_with (first | (refine L_loadM (d := some 15) rfl rfl rfl (by rfl) Tryd.underlying25 rfl el_api_Digest (cs := d.arr) (by rw [← HL.out]; exact hr14) (Dig.size _) ?_) | (go_at_call 38; (try clear hnew); refine (HI.out A17 c17 _ (by rw [← HC.out]; exact hst.old (by decide) hs17)).mono ?_; rintro e Wk3 ⟨rfl, hnew⟩; replace hst := hst.keep hnew) | (go_at_call 36; (try clear hnew); with_reducible refine (rnode_any _ _ _).mono ?_; rintro e Wk4 ⟨rfl, hnew⟩; replace hst := hst.keep hnew) | fail); refine ⟨by first | exact Below.refl _ _ | exact hnew.below, ?_⟩
   refine idx_g rfl ?_; go_wp2_with (first | (refine L_loadM (d := some 15) rfl rfl rfl (by rfl) Tryd.underlying25 rfl el_api_Digest (cs := d.arr) (by rw [← HL.out]; exact hr14) (Dig.size _) ?_) | (go_at_call 38; (try clear hnew); refine (HI.out A17 c17 _ (by rw [← HC.out]; exact hst.old (by decide) hs17)).mono ?_; rintro e Wk3 ⟨rfl, hnew⟩; replace hst := hst.keep hnew) | (go_at_call 36; (try clear hnew); with_reducible refine (rnode_any _ _ _).mono ?_; rintro e Wk4 ⟨rfl, hnew⟩; replace hst := hst.keep hnew) | fail); refine ⟨by first | exact Below.refl _ _ | exact hnew.below, ?_⟩
   refine idx_e rfl ?_; go_wp2_with (first | (refine wpl_at (.store 25 (.tmp 2) (.tmp 19)) rfl ?_; first | (refine L_storeA rfl rfl hst rfl (by rfl) (ev_tmp rfl) (by first | rfl | exact Dig.one _ | (simp; done)) el_api_Digest (by first | rfl | exact Dig.size _ | (simp; done)) 0 rfl (by first | rfl | exact Dig.size _ | (simp; done)) ?_; clear hst; intro WS7 hst; simp only [List.set_cons_zero, List.set_cons_succ] at hst) | (refine L_storeM rfl rfl hst rfl (by rfl) (ev_tmp rfl) (by first | rfl | exact Dig.one _ | (simp; done)) el_api_Digest (by first | rfl | exact Dig.size _ | (simp; done)) 0 rfl (by first | exact of_decide_eq_true rfl | (simp; done)) ?_; clear hst; intro WS7 hst; simp only [List.set_cons_zero, List.set_cons_succ] at hst)) | fail)
   refine idx_nil ?_
   go_wp2_with fail
   refine bp_cell rfl rfl rfl (hst.get 0 rfl) Tryd.underlying25 rfl el_api_Digest (by first | rfl | exact Dig.size _ | (simp; done)) ?_
   exact ⟨rfl, hst.forget⟩
end Go.Proofs.YtfpppmamkmaneaaDoor

set_option maxRecDepth 20000
set_option linter.unusedSimpArgs false
set_option linter.unusedVariables false
namespace Go.Proofs.YtfpppmamkmaneaaDoor
open Go.RowKit
theorem pRoot_okL (n : Nat) (hn : n ≤ 1073741824) (ps : List Dig) (A : Option Addr) (k c : Nat) (w : World) (hT : Tb w) (hx : SlR w A k c 32 (digsL ps)) (hk : k = onesN n) :
  Calls Tryd.prog 26 #[.int .i64 (n : Int), .slice A k c] w fun e w' => e = .returned (.tuple #[(bagN ps).v, .nilIface]) ∧ St w w' [] := by
 by_cases h0 : n = 0
 ·subst h0
  obtain rfl : k = 0 := by rw [hk, onesN_zero]
  have hl : ps.length = 0 := by have := hx.1; rw [length_digsL] at this; omega
  obtain rfl : ps = [] := List.eq_nil_of_length_eq_zero hl
  exact pRoot_zero [] A c w hT hx
 ·exact pRoot_any n hn h0 ps A k c w hT hx hk
theorem pAdd_peaks (ls : List Dig) (l : Dig) (n : Nat) (hn : ls.length = n) (h256 : n ≤ 256) (A : Option Addr) (c : Nat) (w : World) (hT : Tb w) (hD : Dz w) (hx : SlR w A (onesN n) c 32 (digsL (peaksN ls))) :
  Calls Tryd.prog 25 #[.int .i64 (n : Int), .slice A (onesN n) c, l.v] w fun e w' => ∃ O oc, e = .returned (.tuple #[.slice O (onesN (n + 1)) oc, .nilIface]) ∧ St w w' [.row O (onesN (n + 1)) oc 25 32 (digsL (peaksN (ls ++ [l])))] := by
 refine (pAdd_any n (by omega) (peaksN ls) l A (onesN n) c w hT hD hx rfl).mono fun e w' h => ?_
 obtain ⟨O, q, oc, rfl, hs⟩ := h
 rw [grown_peaks n ls l hn] at hs
 have h1 := (hs.sl 0 rfl).1
 rw [length_digsL, length_peaksN (n + 1) (ls ++ [l]) (by rw [List.length_append, hn]; rfl)] at h1
 obtain rfl : q = onesN (n + 1) := by omega
 exact ⟨O, oc, rfl, hs⟩
theorem pAdd_one (l : Dig) (w : World) (hT : Tb w) (hD : Dz w) : Calls Tryd.prog 25 #[.int .i64 0, .slice none 0 0, l.v] w fun e w' => ∃ O oc, e = .returned (.tuple #[.slice O 1 oc, .nilIface]) ∧ St w w' [.row O 1 oc 25 32 l.arr.toList] := by
 have h1 : onesN 1 = 1 := by rw [onesN_odd (by decide), onesN_zero]
 have hp : peaksN [l] = [l] := by
  have := grown_peaks 0 [] l rfl
  rw [peaksN_nil, grownN_even (by decide), List.nil_append] at this
  exact this.symm
 have := pAdd_peaks [] l 0 rfl (by decide) none 0 w hT hD (by rw [onesN_zero, peaksN_nil]; exact SlR.nil_ w 32)
 rw [List.nil_append, hp, onesN_zero, digsL_single, h1] at this
 exact this
end Go.Proofs.YtfpppmamkmaneaaDoor

set_option maxRecDepth 20000
set_option linter.unusedSimpArgs false
set_option linter.unusedVariables false
namespace Go.Proofs.YtfpppmamkmaneaaDoor
open Go.RowKit
theorem tag_7a : zeroD.arr.setIfInBounds 0 (.int .u8 7) = (tagD 7).arr := by rfl
set_option maxHeartbeats 8000000 in
set_option maxRecDepth 100000 in
theorem peaksAre_any (w : World) (hT : Tb w) (hD : Dz w) (ls : List Dig) (A : Option Addr) (n c : Nat) (hx : SlR w A n c 32 (digsL ls)) (_ : n * 32 ≤ 140737488351232) :
  Calls Tryd.prog 8 #[.slice A n c] w fun e w' => e = .returned (.bool true) ∧ St w w' [] := by
 have hst := St.refl w
 have HT := Lib.hid hT
 have HD := Lib.hid hD
 have hl : ls.length = n := by have := hx.1; rw [length_digsL] at this; omega
 have hcap := hx.2.1
 have H7 := Lib.hid tag_7a
 obtain ⟨d7, hd7⟩ : ∃ d, d = tagD 7 := ⟨_, rfl⟩
 rw [← hd7] at H7
 clear hT hD hd7
 go_enter Tryd.func8, Tryd.ntmps8
 go_upto_region 1 with (first
  | fail)
 go_upto_region 2 with (first
  | (refine L_build1 (d := some 15) rfl rfl rfl Tryd.underlying25 el_uint8 el_api_Digest ev_const rfl (by decide) ?_; rw [H7.out])
  | (go_at_call 25; (try clear hnew); refine (pAdd_one d7 _ (HT.out.of hst) (HD.out.of hst)).mono ?_; rintro e Wk1 ⟨O16, c16, rfl, hnew⟩; replace hst := hst.trans hnew; simp only [List.cons_append, List.nil_append] at hst)
  | (refine L_build1 (d := some 15) rfl rfl rfl Tryd.underlying25 el_uint8 el_api_Digest ev_const rfl (by decide) ?_)
  | fail)
 (try clear hnew)
 have hst := hst.forget
 by_cases hn : n ≤ 256
 case neg =>
  have h1 : 256 < (n : Int) := by omega
  clear hn
  go_wp2_with fail
  go_ret
  exact ⟨rfl, hst⟩
 have h1 : ¬ 256 < (n : Int) := by omega
 go_wp2_with fail
 have hst : St w Wk1 [.row none (onesN 0) 0 25 32 (digsL (peaksN (ls.take 0)))] := by
  rw [onesN_zero, List.take_zero, peaksN_nil]
  exact hst.nilRow 25 32
 have HZ := Lib.hid onesN_zero
 go_loopg [5, 6] (n + 1) (fun gk s5 s6 wr => ∃ (i : Nat) (O : Option Addr) (oc : Nat), Hid (i + gk = n + 1) ∧ i ≤ n ∧ s5 = .slice O (onesN i) oc ∧ s6 = .int .i64 (i : Int) ∧ St w wr [.row O (onesN i) oc 25 32 (digsL (peaksN (ls.take i)))])
 case atStart => exact ⟨0, none, 0, Lib.hid (by omega), Nat.zero_le _, by rw [HZ.out], rfl, hst⟩
 case round =>
  clear hst
  obtain ⟨i, O, oc, HI, hin, rfl, rfl, hst⟩ := hrel
  by_cases hend : i < n
  ·have hlt : (ls.take i).length = i := by rw [List.length_take]; omega
   have hle : (i : Int) < (n : Int) := by omega
   obtain ⟨l, hli⟩ : ∃ l, l = ls[i]'(by omega) := ⟨_, rfl⟩
   have HX := Lib.hid (show ((digsL ls).drop ((i : Int).toNat * 32)).take 32 = l.arr.toList by rw [Dig.toList, hli]; exact digsL_at ls i (by omega))
   have HS := Lib.hid (show ls.take (i + 1) = ls.take i ++ [l] by rw [hli]; exact List.take_succ_eq_append_getElem (by omega))
   have HA := Lib.hid (fun A c w hT hD hs => pAdd_peaks (ls.take i) l i hlt (by omega) A c w hT hD hs)
   rw [← HS.out] at HA
   clear hlt hli HS
   generalize digsL (peaksN (ls.take i)) = lp at *
   obtain ⟨lp1, hlp1⟩ : ∃ z, z = digsL (peaksN (ls.take (i + 1))) := ⟨_, rfl⟩
   rw [← hlp1] at HA
   have HL1 := Lib.hid hlp1
   obtain ⟨q1, hq1⟩ : ∃ z, z = onesN (i + 1) := ⟨_, rfl⟩
   rw [← hq1] at HA
   have HQ1 := Lib.hid hq1
   clear hlp1 hq1
   generalize onesN i = q at *
   go_wp2_with (first
    | (refine L_loadM (d := some 41) rfl rfl rfl (by rfl) Tryd.underlying25 rfl el_api_Digest (cs := l.arr) (by rw [← HX.out]; exact hr40) (Dig.size _) ?_)
    | (go_at_call 25; (try clear hnew); refine (HA.out _ _ _ (HT.out.of hst) (HD.out.of hst) (hst.sl 0 rfl)).mono ?_; rintro e Wa ⟨O42, c42, rfl, hnew⟩; replace hst := hst.trans hnew; simp only [List.cons_append, List.nil_append] at hst)
    | (refine L_idxS (d := some 40) rfl rfl rfl (by rfl) (by rfl) Tryd.underlying22 el_api_Digest (by first | exact hst.old (by decide) hx | assumption | exact hst.sl 0 rfl | exact hst.sl 1 rfl | exact hst.sl 2 rfl | exact hst.old (by decide) (by assumption)) (by omega) (by omega) ?_; intro o40 p40 ha40 hr40; (first | subst ha40 | (obtain ⟨h1, h2⟩ := some_addr ha40; subst h1; subst h2; clear ha40) | skip))
    | fail)
   go_roundg (gk - 1)
   case measure => have hi := HI.out; omega
   case rel =>
    have hi := HI.out
    exact ⟨i + 1, O42, c42, Lib.hid (by omega), by omega, by rw [← HQ1.out], by go_num, by rw [← HQ1.out, ← HL1.out]; exact hst.pick [0] (by decide)⟩
  ·obtain rfl : i = n := by omega
   rw [List.take_of_length_le (Nat.le_of_eq hl)] at hst
   clear HI hin hend
   have hlt : ¬ (i : Int) < (i : Int) := by omega
   go_wp2_with (first
    | fail)
   obtain ⟨ps, hps⟩ : ∃ ps, ps = peaksN ls := ⟨_, rfl⟩
   obtain ⟨k, hk⟩ : ∃ k, k = onesN i := ⟨_, rfl⟩
   have hpl : ps.length = k := by rw [hps, hk]; exact length_peaksN i ls hl
   have hk31 : k ≤ 31 := by rw [hk]; exact onesN_bits 31 i (by omega)
   have HPS := Lib.hid hps
   have HPL := Lib.hid hpl
   rw [← hps, ← hk] at hst
   rw [← hk]
   clear hps hk hpl
   go_loopg [9, 10] (k + 1) (fun gk s9 s10 wr => ∃ (j m : Nat) (B : Option Addr) (bc : Nat), Hid (j + gk = k + 1) ∧ j ≤ k ∧ m ≤ i ∧ Hid (ps.drop j = peaksN (ls.drop m)) ∧ Hid (SlR w B (i - m) bc 32 (digsL (ls.drop m))) ∧ s9 = .slice B (i - m) bc ∧ s10 = .int .i64 (j : Int) ∧ St w wr [.row O k oc 25 32 (digsL ps)])
   case atStart => exact ⟨0, 0, A, c, Lib.hid (by omega), Nat.zero_le _, Nat.zero_le _, Lib.hid (by rw [HPS.out]; rfl), Lib.hid hx, rfl, rfl, hst⟩
   case round =>
    clear hst
    obtain ⟨j, m, B, bc, HI, hjk, hmi, HDr, HS, rfl, rfl, hst⟩ := hrel
    obtain ⟨L, hL⟩ : ∃ L, L = i - m := ⟨_, rfl⟩
    obtain ⟨rs, hrs⟩ : ∃ rs, rs = ls.drop m := ⟨_, rfl⟩
    have hrl : rs.length = L := by rw [hrs, hL, List.length_drop, hl]
    rw [← hL, ← hrs] at HS
    rw [← hrs] at HDr
    rw [← hL]
    have HL := Lib.hid hL
    have HRS := Lib.hid hrs
    clear hL hrs
    have hbc := HS.out.2.1
    by_cases hj : j < k
    ·have hlt2 : (j : Int) < (k : Int) := by omega
     have hL0 : L ≠ 0 := fun e => by
      have h1 := HDr.out
      rw [peaksN_of (by omega)] at h1
      have h2 := congrArg List.length h1
      rw [List.length_drop, HPL.out] at h2
      simp at h2
      omega
     obtain ⟨x, hxj⟩ : ∃ x, x = ps[j]'(by rw [HPL.out]; exact hj) := ⟨_, rfl⟩
     have hdr := HDr.out
     rw [List.drop_eq_getElem_cons (by rw [HPL.out]; exact hj), ← hxj, peaksN_cons (by omega), hrl] at hdr
     have HXR := Lib.hid (List.cons.inj hdr).1
     have HDN := Lib.hid (List.cons.inj hdr).2
     have HX := Lib.hid (show ((digsL ps).drop ((j : Int).toNat * 32)).take 32 = x.arr.toList by rw [Dig.toList, hxj]; exact digsL_at ps j (by rw [HPL.out]; exact hj))
     have HC1 := Lib.hid (show ∀ q : Nat, ((digsL rs).drop (0 * 32)).take ((q - 0) * 32) = digsL (rs.take q) from fun q => by rw [digsL_cut]; rfl)
     have HC2 := Lib.hid (show ∀ q : Nat, q ≤ L → ((digsL rs).drop (q * 32)).take ((L - q) * 32) = digsL (rs.drop q) from fun q hq => by rw [digsL_cut, List.take_of_length_le (by rw [List.length_drop]; omega)])
     have HLZ := Lib.hid hL0
     have HTop := Lib.hid (show ∀ q e : Nat, q = 2 ^ e → q ≤ L → L < 2 * q → topN L = q from fun q e h1 h2 h3 => topN_of e h1 h2 h3)
     have hLi : L ≤ 256 := by have := HL.out; omega
     have hne : ((L : Int) == 0) = false := by rw [beq_eq_false_iff_ne]; omega
     have HRt := Lib.hid (fun q (hq : q ≤ L) A c w hT hs => tRoot_any (rs.take q) A q c w hT hs (by omega))
     have HS2 := HS
     clear hdr hxj hL0 hj
     obtain ⟨lrs, hlrs⟩ : ∃ z, z = digsL rs := ⟨_, rfl⟩
     rw [← hlrs] at HS HC1 HC2
     have HLR := Lib.hid hlrs
     clear hlrs
     have hS := HS.out
     go_wp2_with (first
      | fail)
     obtain ⟨gko, rfl⟩ : ∃ z, z = gk := ⟨_, rfl⟩
     go_loopg [11] (L - 1) (fun gk s11 wr => ∃ (q e : Nat), Hid (q + gk = L) ∧ Hid (q = 2 ^ e) ∧ q ≤ L ∧ 0 < q ∧ s11 = .int .i64 (q : Int) ∧ St w wr [.row O k oc 25 32 (digsL ps)])
     case atStart => exact ⟨1, 0, Lib.hid (by have := HLZ.out; omega), Lib.hid rfl, by have := HLZ.out; omega, by omega, rfl, hst⟩
     case round =>
      clear hst
      obtain ⟨q, e, HG, HE, hqL, hq0, rfl, hst⟩ := hrel
      by_cases hin2 : 2 * q ≤ L
      ·have hin3 : 2 * (q : Int) ≤ (L : Int) := by omega
       go_wp2_with (first
        | fail)
       go_roundg (L - 2 * q)
       case measure => have hi := HG.out; omega
       case rel => exact ⟨2 * q, e + 1, Lib.hid (by omega), Lib.hid (by rw [HE.out, Nat.pow_succ]; omega), hin2, by omega, by go_num, hst⟩
      ·have hin3 : ¬ 2 * (q : Int) ≤ (L : Int) := by omega
       have htop := HTop.out q e HE.out hqL (by omega)
       have HXQ := Lib.hid (show rootN (rs.take q) = x by rw [HXR.out, htop])
       have HDQ := Lib.hid (show ps.drop (j + 1) = peaksN (rs.drop q) by rw [HDN.out, htop])
       have HRq := Lib.hid (HRt.out q hqL)
       rw [HXQ.out] at HRq
       have H1 := Lib.hid (HC1.out q)
       have H2 := Lib.hid (HC2.out q hqL)
       clear htop hin2 HTop HC1 HC2 HRt
       go_upto_region 23 with (first
        | fail)
       go_upto_region 24 with (first
        | (go_at_call 16; (try clear hnew); refine (HRq.out A68 c68 _ (HT.out.of hst) (by rw [← H1.out]; exact hst.old (by decide) hs68)).mono ?_; rintro e Wk2 ⟨rfl, hnew⟩; replace hst := hst.keep hnew)
        | (first | (refine L_cutV (d := some 68) rfl rfl rfl (by rfl) Tryd.underlying22 el_api_Digest (by decide) hS 0 q _ (Or.inl ⟨rfl, rfl⟩) (Or.inr ⟨_, _, rfl, by first | exact ev_tmp rfl | (rw [ev_tmp rfl]; congr 1; omega)⟩) (Or.inl ⟨rfl, rfl⟩) (by omega) (by omega) (by omega) (by omega) ?_; intro A68 c68 hs68) | (refine L_cutO (d := some 68) rfl rfl hst rfl (by rfl) Tryd.underlying22 el_api_Digest 0 rfl (by first | rfl | omega) 0 q _ (Or.inl ⟨rfl, rfl⟩) (Or.inr ⟨_, _, rfl, by first | exact ev_tmp rfl | (rw [ev_tmp rfl]; congr 1; omega)⟩) (Or.inl ⟨rfl, rfl⟩) (by omega) (by omega) (by omega) (by omega) ?_; clear hst; intro A68 c68 hst; simp only [List.set_cons_zero, List.set_cons_succ] at hst) | (refine L_cutO (d := some 68) rfl rfl hst rfl (by rfl) Tryd.underlying22 el_api_Digest 1 rfl (by first | rfl | omega) 0 q _ (Or.inl ⟨rfl, rfl⟩) (Or.inr ⟨_, _, rfl, by first | exact ev_tmp rfl | (rw [ev_tmp rfl]; congr 1; omega)⟩) (Or.inl ⟨rfl, rfl⟩) (by omega) (by omega) (by omega) (by omega) ?_; clear hst; intro A68 c68 hst; simp only [List.set_cons_zero, List.set_cons_succ] at hst) | (refine L_cutS (d := some 68) rfl rfl rfl (by rfl) Tryd.underlying22 el_api_Digest (by decide) (by first | assumption | exact hst.old (by decide) (by assumption) | exact hst.sl 0 rfl | exact hst.sl 1 rfl) 0 q _ (Or.inl ⟨rfl, rfl⟩) (Or.inr ⟨_, _, rfl, by first | exact ev_tmp rfl | (rw [ev_tmp rfl]; congr 1; omega)⟩) (Or.inl ⟨rfl, rfl⟩) (by omega) (by omega) (by omega) (by omega) ?_; intro A68 c68 hs68))
        | (refine L_allocA (d := some 12) rfl rfl rfl el_api_Digest ?_; (try clear hnew); intro g12 W12 hnew; replace hst := hst.trans hnew; simp only [List.cons_append, List.nil_append] at hst)
        | (refine wpl_at (.store 25 (.tmp 12) (.tmp 70)) rfl ?_; first | (refine L_storeA rfl rfl hst rfl (by rfl) (ev_tmp rfl) (by first | rfl | exact Dig.one _ | (simp; done)) el_api_Digest (by first | rfl | exact Dig.size _ | (simp; done)) 0 rfl (by first | rfl | exact Dig.size _ | (simp; done)) ?_; clear hst; intro WS8 hst; simp only [List.set_cons_zero, List.set_cons_succ] at hst) | (refine L_storeA rfl rfl hst rfl (by rfl) (ev_tmp rfl) (by first | rfl | exact Dig.one _ | (simp; done)) el_api_Digest (by first | rfl | exact Dig.size _ | (simp; done)) 1 rfl (by first | rfl | exact Dig.size _ | (simp; done)) ?_; clear hst; intro WS8 hst; simp only [List.set_cons_zero, List.set_cons_succ] at hst) | (refine L_storeM rfl rfl hst rfl (by rfl) (ev_tmp rfl) (by first | rfl | exact Dig.one _ | (simp; done)) el_api_Digest (by first | rfl | exact Dig.size _ | (simp; done)) 0 rfl (by first | exact of_decide_eq_true rfl | (simp; done)) ?_; clear hst; intro WS8 hst; simp only [List.set_cons_zero, List.set_cons_succ] at hst)  | (refine L_storeM rfl rfl hst rfl (by rfl) (ev_tmp rfl) (by first | rfl | exact Dig.one _ | (simp; done)) el_api_Digest (by first | rfl | exact Dig.size _ | (simp; done)) 1 rfl (by first | exact of_decide_eq_true rfl | (simp; done)) ?_; clear hst; intro WS8 hst; simp only [List.set_cons_zero, List.set_cons_succ] at hst))
        | fail)
       (try clear hnew)
       refine wp_region_idx [(0, 2), (1, 2), (2, 2), (3, 0), (4, 0), (5, 2), (6, 2), (7, 2), (8, 2), (9, 2)] (by kernel_rfl) (by kernel_rfl) ?_
       replace hst := hst.drew
       refine idx_g rfl ?_; go_wp2_with fail; refine ⟨by first | exact Below.refl _ _ | exact hnew.below, ?_⟩
       refine idx_g rfl ?_; go_wp2_with (first | (refine L_loadM (d := some 79) rfl rfl rfl (by rfl) Tryd.underlying25 rfl el_api_Digest (cs := x.arr) (by rw [← HX.out]; exact hr78) (Dig.size _) ?_) | fail); refine ⟨by first | exact Below.refl _ _ | exact hnew.below, ?_⟩
       refine idx_g rfl ?_; go_wp2_with fail; refine ⟨by first | exact Below.refl _ _ | exact hnew.below, ?_⟩
       refine idx_q rfl rfl ?_; go_wp2_with (first | (first | (refine L_loadA (d := some 75) rfl rfl rfl (by rfl) Tryd.underlying25 rfl el_api_Digest (by first | exact hst.get 0 rfl | exact hst.get 1 rfl) (by first | rfl | exact Dig.size _ | (simp; done)) ?_) | (refine L_loadM (d := some 75) rfl rfl rfl (by rfl) Tryd.underlying25 rfl el_api_Digest (by first | assumption) (by first | rfl | exact Dig.size _ | (simp; done)) ?_)) | fail)
       refine idx_q rfl rfl ?_; go_wp2_with fail
       refine idx_g rfl ?_; go_wp2_with fail; refine ⟨by first | exact Below.refl _ _ | exact hnew.below, ?_⟩
       refine idx_g rfl ?_; go_wp2_with (first | (refine L_idxS (d := some 78) rfl rfl rfl (by rfl) (by rfl) Tryd.underlying22 el_api_Digest (by first | assumption | exact hst.sl 0 rfl | exact hst.sl 1 rfl | exact hst.old (by decide) (by assumption)) (by omega) (by omega) ?_; intro o78 p78 ha78 hr78; (first | subst ha78 | (obtain ⟨h1, h2⟩ := some_addr ha78; subst h1; subst h2; clear ha78) | skip)) | fail); refine ⟨by first | exact Below.refl _ _ | exact hnew.below, ?_⟩
       refine idx_g rfl ?_; go_wp2_with (first | (refine L_loadM (d := some 79) rfl rfl rfl (by rfl) Tryd.underlying25 rfl el_api_Digest (cs := x.arr) (by rw [← HX.out]; exact hr78) (Dig.size _) ?_) | (first | (refine L_loadA (d := some 79) rfl rfl rfl (by rfl) Tryd.underlying25 rfl el_api_Digest (by first | exact hst.get 0 rfl | exact hst.get 1 rfl) (by first | rfl | exact Dig.size _ | (simp; done)) ?_) | (refine L_loadM (d := some 79) rfl rfl rfl (by rfl) Tryd.underlying25 rfl el_api_Digest (by first | assumption) (by first | rfl | exact Dig.size _ | (simp; done)) ?_)) | fail); refine ⟨by first | exact Below.refl _ _ | exact hnew.below, ?_⟩
       refine idx_g rfl ?_; go_wp2_with (first | (refine L_loadM (d := some 79) rfl rfl rfl (by rfl) Tryd.underlying25 rfl el_api_Digest (cs := x.arr) (by rw [← HX.out]; exact hr78) (Dig.size _) ?_) | (refine L_neD (d := some 80) rfl rfl rfl Tryd.underlying25 Tryd.underlying5 el_uint8 eqG_D (ev_tmp rfl) (ev_tmp rfl) ?_; (try rw [dNe x])) | fail); refine ⟨by first | exact Below.refl _ _ | exact hnew.below, ?_⟩
       refine idx_g rfl ?_; go_wp2_with (first | (first | (refine L_pickF (d := some 81) rfl rfl rfl (ev_tmp rfl) (ev_tmp rfl) ?_) | (refine L_pickT (d := some 81) rfl rfl rfl (ev_tmp rfl) ev_const ?_)) | fail); refine ⟨by first | exact Below.refl _ _ | exact hnew.below, ?_⟩
       refine idx_nil ?_
       go_wp2_with (first
        | (first | (refine L_cutV (d := some 84) rfl rfl rfl (by rfl) Tryd.underlying22 el_api_Digest (by decide) hS q L _ (Or.inr ⟨_, _, rfl, by first | exact ev_tmp rfl | (rw [ev_tmp rfl]; congr 1; omega)⟩) (Or.inl ⟨rfl, rfl, rfl⟩) (Or.inl ⟨rfl, rfl⟩) (by omega) (by omega) (by omega) (by omega) ?_; intro A84 c84 hs84) | (refine L_cutO (d := some 84) rfl rfl hst rfl (by rfl) Tryd.underlying22 el_api_Digest 0 rfl (by first | rfl | omega) q L _ (Or.inr ⟨_, _, rfl, by first | exact ev_tmp rfl | (rw [ev_tmp rfl]; congr 1; omega)⟩) (Or.inl ⟨rfl, rfl, rfl⟩) (Or.inl ⟨rfl, rfl⟩) (by omega) (by omega) (by omega) (by omega) ?_; clear hst; intro A84 c84 hst; simp only [List.set_cons_zero, List.set_cons_succ] at hst) | (refine L_cutO (d := some 84) rfl rfl hst rfl (by rfl) Tryd.underlying22 el_api_Digest 1 rfl (by first | rfl | omega) q L _ (Or.inr ⟨_, _, rfl, by first | exact ev_tmp rfl | (rw [ev_tmp rfl]; congr 1; omega)⟩) (Or.inl ⟨rfl, rfl, rfl⟩) (Or.inl ⟨rfl, rfl⟩) (by omega) (by omega) (by omega) (by omega) ?_; clear hst; intro A84 c84 hst; simp only [List.set_cons_zero, List.set_cons_succ] at hst) | (refine L_cutS (d := some 84) rfl rfl rfl (by rfl) Tryd.underlying22 el_api_Digest (by decide) (by first | assumption | exact hst.old (by decide) (by assumption) | exact hst.sl 0 rfl | exact hst.sl 1 rfl) q L _ (Or.inr ⟨_, _, rfl, by first | exact ev_tmp rfl | (rw [ev_tmp rfl]; congr 1; omega)⟩) (Or.inl ⟨rfl, rfl, rfl⟩) (Or.inl ⟨rfl, rfl⟩) (by omega) (by omega) (by omega) (by omega) ?_; intro A84 c84 hs84))
        | fail)
       go_roundg (gko - 1)
       case measure => have hi := HI.out; omega
       case rel =>
        have hi := HI.out
        have h1 := HL.out
        rw [H2.out] at hs84
        have h2 : rs.drop q = ls.drop (m + q) := by rw [HRS.out, List.drop_drop]
        rw [h2] at hs84
        have h3 : i - (m + q) = L - q := by omega
        refine ⟨j + 1, m + q, A84, c84, Lib.hid (by omega), by omega, by omega, Lib.hid (by rw [HDQ.out, h2]), Lib.hid (by rw [h3]; exact hs84), by rw [h3], by go_num, hst.pick [1] (by decide)⟩
    ·obtain rfl : j = k := by omega
     have hL0 : L = 0 := by
      have h1 := HDr.out
      rw [List.drop_of_length_le (by rw [HPL.out]; exact Nat.le_refl _)] at h1
      refine Classical.byContradiction fun hne => ?_
      rw [peaksN_cons (by omega)] at h1
      cases h1
     clear hj HI HDr
     subst hL0
     have hlt2 : ¬ (j : Int) < (j : Int) := by omega
     go_wp2_with (first
      | fail)
     go_ret
     exact ⟨rfl, hst.forget⟩
end Go.Proofs.YtfpppmamkmaneaaDoor

set_option maxRecDepth 20000
set_option linter.unusedSimpArgs false
set_option linter.unusedVariables false
namespace Go.Proofs.YtfpppmamkmaneaaDoor
open Go.ChangeShapes Go.WideShapes Go.RowKit
def dzZ : List Int := Lib.deBruijn64tab.map fun (n : Nat) => (n : Int)
theorem cellsZ : Tryd.prog.cellsOf 113 = 64 := by kernel_rfl
theorem cells8z : Tryd.prog.cellsOf 5 = 1 := by kernel_rfl
theorem gDz : Tryd.prog.globalNamed "math/bits.deBruijn64tab" = some 1 := by kernel_rfl
theorem gDzType : (Tryd.prog.globals[1]?).map (·.type) = some 113 := by kernel_rfl
theorem dz_of {W : World} {rest : List (String × DataW Unit)} (h : laidMet Tryd.prog (("math/bits.deBruijn64tab", Lib.tabData .u8 dzZ) :: rest) W) : Dz W := by
 have ht := Lib.tabIs_of_head gDz gDzType Tryd.underlying113 Tryd.underlying5 cells8z cellsZ h
 unfold Lib.TabIs World.var? at ht
 rw [gDz] at ht
 simp only [Option.bind_some] at ht
 split at ht
 ·rename_i cs t fr hg
  simp only [Option.some.injEq] at ht
  refine ⟨t, fr, ?_⟩
  rw [hg, ht]
  simp [dzArr, dzZ]
 ·cases ht
def dz32Arr : Array Value := (Lib.deBruijn32tab.map fun (k : Nat) => Value.int .u8 (k : Int)).toArray
theorem laid_z {W : World} (h : laidMet Tryd.prog [("math/bits.deBruijn32tab", Rows.laid_math_bits_deBruijn32tab), ("math/bits.deBruijn64tab", Rows.laid_math_bits_deBruijn64tab), ("oathbook/sha.rounds", Rows.laid_oathbook_sha_rounds)] W) : Tb W ∧ Dz W :=
 ⟨tb_of (laidMet.tail (laidMet.tail h)), dz_of (laidMet.tail h)⟩
end Go.Proofs.YtfpppmamkmaneaaDoor

namespace Go.Proofs.YtfpppmamkmaneaaDoor.peaksAre
open Go.ChangeShapes Go.WideShapes Go.ChangeAt Go.RowKit
theorem own : ownKnob Tryd.prog.godebug = none := by kernel_rfl
theorem laidOut : laidOutB Tryd.prog = true := by kernel_rfl
theorem cellsD : Tryd.prog.cellsOf 25 = 32 := by kernel_rfl
theorem cells8 : Tryd.prog.cellsOf 5 = 1 := by kernel_rfl
set_option maxRecDepth 100000 in
theorem contract (H : Type) (enc : TypeId × Value → H) (W : World) (base : Nat) (args : Array Value) (ds gs : List (DataW H)) (before : List MemPlace)
  (hval : ∀ (j : Nat) t v, Tryd.f8.params[j]? = some t → args[j]? = some v → Value.okWide Tryd.prog W .any base t v)
  (hW : DataW.Whole enc Tryd.prog Tryd.f8.params.toList Rows.peaksAreSpec.vars false W args.toList ds gs before) (hT : Tb W) (hD : Dz W)
  (hz : (DataW.weightsEach Tryd.prog (Tryd.f8.params.toList ++ (OpenSpec.ofChange Rows.peaksAreSpec).bare.plain.varTypes Tryd.prog) (ds ++ gs)).all (· ≤ reachBytes) = true) :
  Calls Tryd.prog 8 args W fun e W' => ∃ v, e = .returned v ∧ Rows.peaksAreSpec.post enc Tryd.prog Tryd.f8 false true false false W args v W' := by
 have hW' := hW
 obtain ⟨p, q, hA0, hV, rfl, hfz, hnd⟩ := hW
 have hA : DataW.TrodAll enc Tryd.prog W 0 (fun _ => true) true Tryd.f8.params.toList args.toList ds p := hA0
 rw [Tryd.params8] at hA hval hz
 obtain ⟨v0, vs0, d0, ds0, p0, q0, hargs, rfl, rfl, h0, r0⟩ := trodAll_cons hA
 obtain ⟨rfl, rfl, rfl⟩ := trodAll_nil r0
 obtain rfl : args = #[v0] := by cases args; simp_all
 obtain ⟨rfl, rfl⟩ := trodVars_none hV
 obtain ⟨A0, n0, c0, a0, rfl, hs0, hd0⟩ := open_digsS Tryd.underlying22 Tryd.underlying25 Tryd.underlying5 cells8 cellsD (hval 0 _ v0 rfl rfl) h0
 have hn0 : n0 * 32 ≤ 140737488351232 := by
  rcases hd0 with ⟨_, h0⟩ | ⟨el, sp, rfl, hel⟩
  ·rw [h0]; decide
  ·have := sized_slice hz (j := 0) (e := 25) rfl rfl Tryd.underlying22
   rw [show Tryd.prog.bytesOf 25 = 32 from by kernel_rfl] at this
   have := reach_le this
   rw [← hel]
   omega
 have lt0 : ∀ x ∈ p0, x.block < W.heap.size := by obtain ⟨m, hm⟩ := h0; exact DataW.trod_lt m _ _ _ hm
 clear hA0
 refine (peaksAre_any W hT hD a0 A0 n0 c0 hs0 hn0).mono fun e W' ⟨he, hst⟩ => ?_
 have bel := hst.below
 subst he
 exact ⟨_, rfl, _, _, _, [], _, [], hW', trodAll_mk1 (shut_bool Tryd.underlying4 _),
  (trodAll_cons_mk (Below.trod laidOut (by kernel_rfl) (of_decide_eq_true (by kernel_rfl)) h0 bel lt0) trodAll_mk0), rfl, bel.frame _, fun h => by cases h⟩
noncomputable def laidWorldA (os : Os) : World :=
 { World.holding Tryd.prog os ⟨#[], #[], []⟩ with heap := (World.holding Tryd.prog os ⟨#[], #[], []⟩).heap.modify 3 fun
   | .cells _ t frozen => .cells tblArr t frozen
   | o => o }
noncomputable def laidWorldB (os : Os) : World :=
 { laidWorldA os with heap := (laidWorldA os).heap.modify 0 fun
   | .cells _ t frozen => .cells dz32Arr t frozen
   | o => o }
noncomputable def laidWorld (os : Os) : World :=
 { laidWorldB os with heap := (laidWorldB os).heap.modify 1 fun
   | .cells _ t frozen => .cells dzArr t frozen
   | o => o }
theorem laid_met (os : Os) : laidMet Tryd.prog Rows.peaksAreRow.laid ((laidWorld os).forCall (fun _ _ => 0) ⟨#[], #[.slice none 0 0], []⟩).memory :=
 laidMet_of_run' 8 (by kernel_rfl) (by kernel_rfl)
theorem reads (os : Os) {H : Type} (enc : TypeId × Value → H) : ∃ places, DataW.whole enc Tryd.prog ((laidWorld os).forCall (fun _ _ => 0) ⟨#[], #[.slice none 0 0], []⟩).memory Tryd.f8.params.toList Rows.peaksAreSpec.vars false (#[.slice none 0 0] : Array Value).toList 8 = some ([.nil], [], places) :=
 ⟨[], by kernel_rfl⟩
set_option maxRecDepth 100000 in
theorem lifted (os : Os) (started : os.Started) (H : Type) (enc : TypeId × Value → H) (F : Stop.Interp) :
  ReturnsInHanded {} Tryd.checked os 8 .any ((OpenSpec.ofChange Rows.peaksAreSpec).preRow enc Tryd.prog Tryd.f8 Rows.peaksAreRow.domain false Rows.peaksAreRow.laid) (((OpenSpec.ofChange Rows.peaksAreSpec).at F).post enc Tryd.prog Tryd.f8 false true false false) := by
 obtain ⟨places, hx⟩ := reads os enc
 refine returnsInHanded_of_row (C := Tryd.checked) (s := (OpenSpec.ofChange Rows.peaksAreSpec)) own started (by kernel_rfl) Tryd.func8
  (witness_row_at (enc := enc) (C := Tryd.checked) false (laidWorld os) #[.slice none 0 0] rfl (by kernel_rfl) (by kernel_rfl) (by kernel_rfl)
   (OpenSpec.preRow_of_cond 8 hx (by kernel_rfl) (fun k hk => by cases hk) (by kernel_rfl) (laid_met os))) ?_
 intro W base args ds gs before hval hW _ _ hz hL _ _
 exact contract H enc W base args ds gs before hval hW (laid_z hL).1 (laid_z hL).2 hz
theorem said : Rows.PeaksAreSaid :=
 OpenClaim.holds_of_cond 8 Tryd.f8 rfl rfl rfl rfl rfl rfl rfl ⟨rfl, rfl, rfl, rfl, rfl⟩ rfl rfl rfl rfl rfl (by kernel_rfl) Tryd.func8 (by kernel_rfl)
  (of_decide_eq_true (by kernel_rfl)) (by unfold Func.isWrapper; first | (rw [if_pos (by decide +kernel)]; kernel_rfl) | (rw [if_neg (by decide +kernel)]; exact ⟨rfl, rfl⟩))
  (fun os started H enc _ F => by rw [OpenClaim.pre_eq_preRow]; exact lifted os started H enc F)
theorem plain (f : FuncId) (fn : Func) (hf : Tryd.pinned.checked.prog.funcNamed "oathbook/oathbooklaw1.PeaksAre" = some f) (hfn : Tryd.pinned.checked.prog.funcs[f]? = some fn) :
  true = Tryd.pinned.checked.prog.looks [] ∧ ∀ (j : Nat) t, fn.params[j]? = some t → Tryd.pinned.checked.prog.wantsStandIn t = false := by
 obtain rfl : f = 8 := Option.some.inj ((show Tryd.prog.funcNamed "oathbook/oathbooklaw1.PeaksAre" = some 8 by kernel_rfl).symm.trans hf) |>.symm
 obtain rfl : fn = Tryd.f8 := (Option.some.inj (Tryd.func8.symm.trans hfn)).symm
 refine ⟨by kernel_rfl, fun j t ht => ?_⟩
 rw [Tryd.params8] at ht
 have hm := Array.mem_of_getElem? ht
 have ha : ∀ t ∈ #[22], Tryd.prog.wantsStandIn t = false := by
  intro t ht
  simp only [List.mem_toArray, List.mem_cons, List.not_mem_nil, or_false] at ht
  subst ht
  kernel_rfl
 exact ha t hm
theorem proved : Rows.PeaksAreCardSaid :=
 Claim7.holds_tied_plain_at .later [] _ _ _ _ said (fun _ h => by cases h) (by kernel_rfl) (fun _ h => by cases h) peaksAre_row_tie rfl ⟨rfl, rfl⟩ (by kernel_rfl) rfl plain (by kernel_rfl)
#print axioms proved
end Go.Proofs.YtfpppmamkmaneaaDoor.peaksAre
