/-
  Proved here: the plain law of a one-time key: what is signed is known; who signs another digest, too, has a secret that was not shown, or two lists have one digest. No program in sight.
-/
import Derived.Test.YthlpobpkhlbfdaaDoorOnce
set_option linter.unusedSimpArgs false
set_option linter.unusedVariables false
namespace Go.Proofs.YthlpobpkhlbfdaaDoor

/-- a bit of a digest -/
def bitN (m : Dig) (i : Nat) : Nat := ((m.l.getD (i / 8) 0).toNat >>> (7 - i % 8)) % 2
theorem bitN_lt (m : Dig) (i : Nat) : bitN m i < 2 := Nat.mod_lt _ (by decide)
/-- the signature's first places -/
def sigTo (seed m : Dig) (n : Nat) : List Dig := (List.range n).flatMap fun i => [secretN seed i (bitN m i), leafN (secretN seed i (1 - bitN m i))]
def onceSigN (seed m : Dig) : List Dig := sigTo seed m 256
theorem sigTo_succ (seed m : Dig) (n : Nat) : sigTo seed m (n + 1) = sigTo seed m n ++ [secretN seed n (bitN m n), leafN (secretN seed n (1 - bitN m n))] := by
  simp [sigTo, List.range_succ]
theorem pairs_at (f g : Nat → Dig) : ∀ (n i : Nat), i < n → ((List.range n).flatMap fun i => [f i, g i]).getD (2 * i) zeroD = f i ∧ ((List.range n).flatMap fun i => [f i, g i]).getD (2 * i + 1) zeroD = g i
  | 0, i, h => by omega
  | n + 1, i, h => by
    have hl : ∀ n, ((List.range n).flatMap fun i => [f i, g i]).length = 2 * n := by
      intro n
      induction n with
      | zero => rfl
      | succ n ih => rw [List.range_succ, List.flatMap_append, List.length_append, ih]; simp; omega
    rw [List.range_succ, List.flatMap_append]
    by_cases hin : i < n
    · have := pairs_at f g n i hin
      have h1 := hl n
      simp only [List.getD_eq_getElem?_getD] at this ⊢
      rw [List.getElem?_append_left (by omega), List.getElem?_append_left (by omega)]
      exact this
    · obtain rfl : i = n := by omega
      have h1 := hl i
      simp only [List.getD_eq_getElem?_getD]
      rw [List.getElem?_append_right (by omega), List.getElem?_append_right (by omega), h1, Nat.sub_self, show 2 * i + 1 - 2 * i = 1 by omega]
      simp
theorem length_sigTo (seed m : Dig) (n : Nat) : (sigTo seed m n).length = 2 * n := by
  induction n with
  | zero => rfl
  | succ n ih => rw [sigTo_succ, List.length_append, ih]; simp; omega
/-- what a signature tells at a place -/
def recAt (m : Dig) (sig : List Dig) (k : Nat) : Dig := if bitN m (k / 2) = k % 2 then leafN (sig.getD (k - k % 2) zeroD) else sig.getD (k - k % 2 + 1) zeroD
def recL (m : Dig) (sig : List Dig) : List Dig := (List.range 512).map (recAt m sig)
def onceRecN (m : Dig) (sig : List Dig) : Dig := ofN 4 (recL m sig)
def leafAt (seed : Dig) (k : Nat) : Dig := leafN (secretN seed (k / 2) (k % 2))
theorem leaves_map (seed : Dig) : ∀ n, leavesN seed n = (List.range (2 * n)).map (leafAt seed)
  | 0 => rfl
  | n + 1 => by
    rw [leavesN_succ, leaves_map seed n, show 2 * (n + 1) = 2 * n + 1 + 1 by omega, List.range_succ, List.range_succ, List.map_append, List.map_append, List.append_assoc]
    congr 1
    simp only [List.map_cons, List.map_nil, leafAt, List.cons_append, List.nil_append]
    rw [show 2 * n / 2 = n by omega, show 2 * n % 2 = 0 by omega, show (2 * n + 1) / 2 = n by omega, show (2 * n + 1) % 2 = 1 by omega]
theorem rec_sig (seed m : Dig) (k : Nat) (hk : k < 512) : recAt m (onceSigN seed m) k = leafAt seed k := by
  obtain ⟨h1, h2⟩ := pairs_at (fun i => secretN seed i (bitN m i)) (fun i => leafN (secretN seed i (1 - bitN m i))) 256 (k / 2) (by omega)
  have hb := bitN_lt m (k / 2)
  unfold recAt leafAt onceSigN sigTo
  rw [show k - k % 2 = 2 * (k / 2) by omega]
  split
  · rename_i h
    rw [h1, h]
  · rename_i h
    rw [h2, show 1 - bitN m (k / 2) = k % 2 by omega]
theorem once_signed (seed m : Dig) : onceRecN m (onceSigN seed m) = onceN seed := by
  have h := leaves_map seed 256
  rw [show 2 * 256 = 512 from rfl] at h
  unfold onceRecN onceN recL
  rw [h]
  exact congrArg (ofN 4) (List.map_congr_left fun k hk => rec_sig seed m k (List.mem_range.1 hk))
theorem bits_byte : ∀ x : Fin 256, (x.val >>> 7) % 2 * 128 + (x.val >>> 6) % 2 * 64 + (x.val >>> 5) % 2 * 32 + (x.val >>> 4) % 2 * 16 + (x.val >>> 3) % 2 * 8 + (x.val >>> 2) % 2 * 4 + (x.val >>> 1) % 2 * 2 + (x.val >>> 0) % 2 = x.val := by decide +kernel
theorem bits_inj (m o : Dig) (h : ∀ i, i < 256 → bitN m i = bitN o i) : m = o := by
  apply Dig.ext'
  apply List.ext_getElem?
  intro j
  by_cases hj : j < 32
  · have hm : j < m.l.length := by rw [m.h]; exact hj
    have ho : j < o.l.length := by rw [o.h]; exact hj
    have key : ∀ d, d < 8 → ((m.l.getD j 0).toNat >>> (7 - d)) % 2 = ((o.l.getD j 0).toNat >>> (7 - d)) % 2 := fun d hd => by
      have := h (8 * j + d) (by omega)
      unfold bitN at this
      rw [show (8 * j + d) / 8 = j by omega, show (8 * j + d) % 8 = d by omega] at this
      exact this
    have hx := bits_byte ⟨(m.l.getD j 0).toNat, UInt8.toNat_lt _⟩
    have hy := bits_byte ⟨(o.l.getD j 0).toNat, UInt8.toNat_lt _⟩
    simp only at hx hy
    have k0 := key 0 (by decide)
    have k1 := key 1 (by decide)
    have k2 := key 2 (by decide)
    have k3 := key 3 (by decide)
    have k4 := key 4 (by decide)
    have k5 := key 5 (by decide)
    have k6 := key 6 (by decide)
    have k7 := key 7 (by decide)
    simp only [Nat.sub_zero, Nat.reduceSub] at k0 k1 k2 k3 k4 k5 k6 k7
    have e : (m.l.getD j 0).toNat = (o.l.getD j 0).toNat := by
      rw [← hx, ← hy, k0, k1, k2, k3, k4, k5, k6, k7]
    have e2 := UInt8.toNat_inj.1 e
    rw [List.getElem?_eq_getElem hm, List.getElem?_eq_getElem ho]
    simpa [List.getD_eq_getElem?_getD, hm, ho] using e2
  · rw [List.getElem?_eq_none (by rw [m.h]; omega), List.getElem?_eq_none (by rw [o.h]; omega)]
theorem once_forged_at (seed m other : Dig) (sig : List Dig) (hne : other ≠ m) (N : Nat) (hN : N = 512)
    (h1 : ∀ i, i < 256 → ¬ (bitN m i ≠ bitN other i ∧ leafN (sig.getD (2 * i) zeroD) = leafN (secretN seed i (1 - bitN m i)))) :
    (List.range N).map (leafAt seed) ≠ (List.range N).map (recAt other sig) := by
  intro he
  have hd : ∃ i, i < 256 ∧ bitN m i ≠ bitN other i := by
    refine Classical.byContradiction fun hno => hne (bits_inj other m fun i hi => ?_)
    refine Classical.byContradiction fun hb => hno ⟨i, hi, fun e => hb e.symm⟩
  obtain ⟨i, hi, hb⟩ := hd
  have bm := bitN_lt m i
  have bo := bitN_lt other i
  have hk := congrArg (fun l => l[2 * i + bitN other i]?) he
  simp only [List.getElem?_map, List.getElem?_range (show 2 * i + bitN other i < N by omega), Option.map_some, Option.some.injEq, leafAt, recAt] at hk
  rw [show (2 * i + bitN other i) / 2 = i by omega, show (2 * i + bitN other i) % 2 = bitN other i by omega, if_pos rfl, show 2 * i + bitN other i - bitN other i = 2 * i by omega] at hk
  refine h1 i hi ⟨hb, ?_⟩
  rw [← hk]
  congr 2
  omega
theorem once_told_at (seed other : Dig) (sig : List Dig) (h : onceRecN other sig = onceN seed) (N : Nat) (hN : N = 512) :
    ofN 4 ((List.range N).map (leafAt seed)) = ofN 4 ((List.range N).map (recAt other sig)) := by
  subst hN
  have h' := leaves_map seed 256
  rw [show 2 * 256 = 512 from rfl] at h'
  unfold onceRecN recL onceN at h
  rw [h'] at h
  exact h.symm
end Go.Proofs.YthlpobpkhlbfdaaDoor
