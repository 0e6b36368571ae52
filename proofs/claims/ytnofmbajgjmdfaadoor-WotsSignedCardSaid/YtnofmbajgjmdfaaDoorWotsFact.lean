/-
  Proved here: the public key of the seed of bytes 0 is not bytes 0, reckoned by the kernel. No program in sight.
-/
import Derived.Test.YtnofmbajgjmdfaaDoorFacts
import Derived.Test.YtnofmbajgjmdfaaDoorWots
namespace Go.Proofs.YtnofmbajgjmdfaaDoor
def fWalk (ns : List Nat) : Nat → List Nat
  | 0 => ns
  | k + 1 => fSha (8 :: fWalk ns k)
theorem fWalk_small (ns : List Nat) (hs : small ns) : ∀ k, small (fWalk ns k)
  | 0 => hs
  | _ + 1 => small_fSha _
theorem walk_of (ns : List Nat) (hs : small ns) (d : Dig) (hd : d.l = ofNs ns) : ∀ k, (walkN d k).l = ofNs (fWalk ns k)
  | 0 => hd
  | k + 1 => step_of _ (fWalk_small ns hs k) _ (walk_of ns hs d hd k)
theorem allB_of (f : Nat → Dig) (g : Nat → List Nat) : ∀ (l : List Nat), (∀ i ∈ l, (f i).l = ofNs (g i)) → allB (l.map f) = ofNs (l.flatMap g)
  | [], _ => rfl
  | i :: l, h => by
    have h1 := h i (by simp)
    have h2 := allB_of f g l (fun j hj => h j (by simp [hj]))
    simp only [allB, List.map_cons, List.flatMap_cons] at *
    rw [h1, h2, ofNs_app]
theorem ofN_of (tag : Nat) (ht : tag < 256) (ds : List Dig) (ns : List Nat) (hs : small ns) (h : allB ds = ofNs ns) : (ofN (UInt8.ofNat tag) ds).l = ofNs (fSha (tag :: ns)) := by
  have : UInt8.ofNat tag :: allB ds = ofNs (tag :: ns) := by simp [h, ofNs]
  unfold ofN
  rw [this]
  exact fSha_eq _ (fun x hx => by
    rcases List.mem_cons.1 hx with rfl | hx
    · exact ht
    · exact hs x hx)
theorem small_flat (g : Nat → List Nat) (l : List Nat) (h : ∀ i, small (g i)) : small (l.flatMap g) := fun x hx => by
  obtain ⟨i, _, hx⟩ := List.mem_flatMap.1 hx
  exact h i x hx
def fChain (i : Nat) : List Nat := fWalk (fMac (List.replicate 32 0) [5, i]) 15
theorem wSecret_of (i : Nat) (hi : i < 67) : (wSecretN zeroD i).l = ofNs (fMac (List.replicate 32 0) [5, i]) := by
  unfold wSecretN keyN
  rw [zeroD_of]
  exact mac_of (b := [5, i]) (small_rep 32 0 (by omega)) (by decide) (fun x hx => by
    simp only [List.mem_cons, List.not_mem_nil, or_false] at hx
    omega)
set_option maxRecDepth 100000 in
theorem wots_calc : (fSha (7 :: (List.range 67).flatMap fChain) == List.replicate 32 0) = false := by decide +kernel
theorem wots_ne : wotsN zeroD ≠ zeroD :=
  ne_zero_of (ofN_of 7 (by omega) _ _ (small_flat fChain _ (fun i => fWalk_small _ (small_fSha _) 15))
    (allB_of (fun i => walkN (wSecretN zeroD i) 15) fChain (List.range 67) (fun i hi => walk_of _ (small_fSha _) _ (wSecret_of i (List.mem_range.1 hi)) 15))) (small_fSha _) wots_calc
end Go.Proofs.YtnofmbajgjmdfaaDoor
