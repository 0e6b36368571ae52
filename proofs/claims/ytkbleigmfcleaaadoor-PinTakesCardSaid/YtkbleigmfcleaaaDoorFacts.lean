/-
  Proved here: closed facts of digests, reckoned by the kernel. No program in sight.
-/
import Derived.Test.YtkbleigmfcleaaaDoorFast
import Derived.Test.YtkbleigmfcleaaaDoorChain
set_option maxRecDepth 20000
set_option linter.unusedSimpArgs false
set_option linter.unusedVariables false
namespace Go.Proofs.YtkbleigmfcleaaaDoor

theorem small_fSha (ns : List Nat) : small (fSha ns) := by
  unfold fSha
  rw [fForceL_eq]
  intro x hx
  simp only [id, List.mem_flatMap, fBytes, List.mem_cons, List.not_mem_nil, or_false] at hx
  obtain ⟨w, _, hx⟩ := hx
  rcases hx with rfl | rfl | rfl | rfl <;> exact Nat.mod_lt _ (by omega)
theorem small_app {a b : List Nat} (ha : small a) (hb : small b) : small (a ++ b) := fun x hx => by
  rcases List.mem_append.1 hx with h | h
  · exact ha x h
  · exact hb x h
theorem ofNs_app (a b : List Nat) : ofNs (a ++ b) = ofNs a ++ ofNs b := by simp [ofNs]
theorem ofNs_inj {a b : List Nat} (ha : small a) (hb : small b) (h : ofNs a = ofNs b) : a = b := by
  have e : ∀ l : List Nat, small l → (ofNs l).map UInt8.toNat = l := fun l hl => by
    simp only [ofNs, List.map_map]
    rw [List.map_congr_left (g := id)]
    · simp
    · intro x hx
      have := hl x hx
      simp only [Function.comp, UInt8.toNat_ofNat', id]
      omega
  rw [← e a ha, ← e b hb, h]
def fPadK (k : List Nat) (x : Nat) : List Nat := (k ++ List.replicate (64 - k.length) 0).map fun y => Nat.xor y x
/-- the digest with a key of at most 64 bytes -/
def fMac (k b : List Nat) : List Nat := fSha (fPadK k 92 ++ fSha (fPadK k 54 ++ b))
theorem small_padK {k : List Nat} (hk : small k) (x : Nat) (hx : x < 256) : small (fPadK k x) := by
  intro y hy
  simp only [fPadK, List.mem_map, List.mem_append, List.mem_replicate] at hy
  obtain ⟨z, hz, rfl⟩ := hy
  refine Nat.xor_lt_two_pow (n := 8) ?_ hx
  rcases hz with hz | ⟨_, rfl⟩
  · exact hk z hz
  · omega
theorem padK_of {k : List Nat} (hk : small k) (hl : k.length ≤ 64) (x : Nat) (hx : x < 256) : padK (ofNs k) (UInt8.ofNat x) = ofNs (fPadK k x) := by
  apply List.ext_getElem?
  intro i
  by_cases hi : i < 64
  · simp only [padK, fPadK, ofNs, List.getElem?_map, List.getElem?_range hi, Option.map_some]
    have hg : (k ++ List.replicate (64 - k.length) 0)[i]? = some (k.getD i 0) := by
      by_cases h : i < k.length
      · simp [List.getElem?_append, h]
      · simp only [List.getElem?_append, h, if_false, List.getD_eq_getElem?_getD, List.getElem?_eq_none (show k.length ≤ i by omega), Option.getD_none]
        rw [List.getElem?_replicate, if_pos (by omega)]
    rw [hg]
    simp only [Option.map_some, Option.some.injEq]
    have hs : k.getD i 0 < 256 := by
      by_cases h : i < k.length
      · simp only [List.getD_eq_getElem?_getD, List.getElem?_eq_getElem h, Option.getD_some]; exact hk _ (List.getElem_mem h)
      · simp only [List.getD_eq_getElem?_getD, List.getElem?_eq_none (show k.length ≤ i by omega), Option.getD_none]; omega
    have hm : (List.map UInt8.ofNat k).getD i 0 = UInt8.ofNat (k.getD i 0) := by
      by_cases h : i < k.length
      · simp [h]
      · simp [List.getElem?_eq_none (show k.length ≤ i by omega)]
    rw [hm]
    apply UInt8.toNat_inj.1
    rw [UInt8.toNat_xor, UInt8.toNat_ofNat', UInt8.toNat_ofNat', UInt8.toNat_ofNat', Nat.mod_eq_of_lt hs, Nat.mod_eq_of_lt hx]
    exact (Nat.mod_eq_of_lt (Nat.xor_lt_two_pow (n := 8) hs hx)).symm
  · rw [List.getElem?_eq_none (by rw [length_padK]; omega), List.getElem?_eq_none (by simp [ofNs, fPadK]; omega)]
theorem mac_of {k b : List Nat} (hk : small k) (hl : k.length ≤ 64) (hb : small b) : (macN (ofNs k) (ofNs b)).l = ofNs (fMac k b) := by
  have h1 : keyOf (ofNs k) = ofNs k := by
    rw [keyOf, if_neg (by simp [ofNs]; omega)]
  unfold macN fMac
  rw [h1, show (92 : UInt8) = UInt8.ofNat 92 from rfl, show (54 : UInt8) = UInt8.ofNat 54 from rfl, padK_of hk hl 92 (by omega), padK_of hk hl 54 (by omega), ← ofNs_app,
    fSha_eq _ (small_app (small_padK hk 54 (by omega)) hb), ← ofNs_app, fSha_eq _ (small_app (small_padK hk 92 (by omega)) (small_fSha _))]
theorem zeroD_of : zeroD.l = ofNs (List.replicate 32 0) := by simp [zeroD, ofNs]
theorem small_rep (n x : Nat) (h : x < 256) : small (List.replicate n x) := fun y hy => by
  rw [List.mem_replicate] at hy
  rw [hy.2]; exact h
theorem ne_zero_of {d : Dig} {ns : List Nat} (hd : d.l = ofNs ns) (hs : small ns) (h : (ns == List.replicate 32 0) = false) : d ≠ zeroD := fun e => by
  rw [e, zeroD_of] at hd
  have := ofNs_inj (small_rep 32 0 (by omega)) hs hd
  rw [← this] at h
  simp at h

/-! ## the facts -/
theorem abc_l : (sha [97, 98, 99]).l = ofNs [186, 120, 22, 191, 143, 1, 207, 234, 65, 65, 64, 222, 93, 174, 34, 35, 176, 3, 97, 163, 150, 23, 122, 156, 180, 16, 255, 97, 242, 0, 21, 173] := by
  have := fSha_eq [97, 98, 99] (small_dec (by decide))
  rw [show fSha [97, 98, 99] = _ from (by decide +kernel : fSha [97, 98, 99] = [186, 120, 22, 191, 143, 1, 207, 234, 65, 65, 64, 222, 93, 174, 34, 35, 176, 3, 97, 163, 150, 23, 122, 156, 180, 16, 255, 97, 242, 0, 21, 173])] at this
  exact this
theorem abc_at (i k : Nat) (h : [186, 120, 22, 191, 143, 1, 207, 234, 65, 65, 64, 222, 93, 174, 34, 35, 176, 3, 97, 163, 150, 23, 122, 156, 180, 16, 255, 97, 242, 0, 21, 173][i]? = some k) (hk : k < 256) : (sha [97, 98, 99]).arr[i]? = some (.int .u8 (k : Int)) := by
  unfold Dig.arr bytesV bytesL
  rw [abc_l]
  simp only [ofNs, List.getElem?_toArray, List.getElem?_map, h, Option.map_some, byteV]
  rw [UInt8.toNat_ofNat', Nat.mod_eq_of_lt hk]
theorem mac_nil_ne : macN [] [] ≠ zeroD :=
  ne_zero_of (mac_of (k := []) (b := []) (small_dec (by decide)) (by decide) (small_dec (by decide))) (small_fSha _) (by decide +kernel)
theorem step_of (ns : List Nat) (hs : small ns) (d : Dig) (hd : d.l = ofNs ns) : (stepN d).l = ofNs (fSha (8 :: ns)) := by
  have : (8 : UInt8) :: allB [d] = ofNs (8 :: ns) := by simp [allB, hd, ofNs]
  unfold stepN ofN
  rw [this]
  exact fSha_eq _ (fun x hx => by
    rcases List.mem_cons.1 hx with rfl | hx
    · omega
    · exact hs x hx)
theorem walk1_ne : walkN zeroD 1 ≠ zeroD :=
  ne_zero_of (step_of _ (small_rep 32 0 (by omega)) zeroD zeroD_of) (small_fSha _) (by decide +kernel)
end Go.Proofs.YtkbleigmfcleaaaDoor
