/-
  Proved here: the plain law of a chain key: what is signed is known. No program in sight.
-/
import Derived.Test.YtfpppmamkmaneaaDoorWotsB
set_option maxRecDepth 20000
namespace Go.Proofs.YtfpppmamkmaneaaDoor

theorem digit_le15 (m : Dig) (i : Nat) (hi : i < 67) : (digitsN m.l).getD i 0 ≤ 15 := by
  have hl := length_digitsN' m
  rw [List.getD_eq_getElem?_getD, List.getElem?_eq_getElem (by omega), Option.getD_some]
  have hm : (digitsN m.l)[i]'(by omega) ∈ digitsN m.l := List.getElem_mem _
  generalize (digitsN m.l)[i]'(by omega) = x at hm
  simp only [digitsN, List.mem_append, List.mem_cons, List.not_mem_nil, or_false] at hm
  rcases hm with hm | rfl | rfl | rfl
  · simp only [nibs, List.mem_flatMap, List.mem_cons, List.not_mem_nil, or_false] at hm
    obtain ⟨b, _, rfl | rfl⟩ := hm <;> have := UInt8.toNat_lt b <;> omega
  · have := lack_le m.l; rw [m.h] at this; omega
  · omega
  · omega
theorem length_endsN (ds : Nat → Dig) (ks : Nat → Nat) : (endsN ds ks).length = 67 := by simp [endsN]
theorem wots_signed (seed m : Dig) : wRecN m (wSigN seed m) = wotsN seed := by
  unfold wRecN wotsN
  congr 1
  unfold endsN
  refine List.map_congr_left fun i hi => ?_
  have hi : i < 67 := List.mem_range.1 hi
  have h := digit_le15 m i hi
  have e : (wSigN seed m).getD i zeroD = walkN (wSecretN seed i) ((digitsN m.l).getD i 0) := by
    simp [wSigN, endsN, List.getD_eq_getElem?_getD, hi]
  show walkN ((wSigN seed m).getD i zeroD) (15 - (digitsN m.l).getD i 0) = walkN (wSecretN seed i) 15
  rw [e, walkN_add]
  congr 1
  omega
end Go.Proofs.YtfpppmamkmaneaaDoor
