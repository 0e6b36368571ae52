/-
  Proved here: the plain law of a chain key: who signs another digest, too, knows a digest ahead of one that was shown, or two digests with one step; else two lists have one digest. No program in sight.
-/
import Derived.Test.YtnofmbajgjmdfabDoorWotsPlain
import Derived.Test.YtnofmbajgjmdfabDoorApartPlain
namespace Go.Proofs.YtnofmbajgjmdfabDoor

/-- two ways on one step: they differ, and meet -/
def Meets (x y : Dig) : Prop := x ≠ y ∧ stepN x = stepN y
theorem walk_back (x y : Dig) (b : Nat) (n : Nat) (h : walkN x (b + n) = walkN y n) (hno : ∀ k, k < n → ¬ Meets (walkN x (b + k)) (walkN y k)) : walkN x b = y := by
  induction n with
  | zero => exact h
  | succ n ih =>
    refine ih ?_ (fun k hk => hno k (by omega))
    have h1 := hno n (by omega)
    by_cases he : walkN x (b + n) = walkN y n
    · exact he
    · exact absurd ⟨he, h⟩ h1
theorem ends_inj {ds es : Nat → Dig} {ks ls : Nat → Nat} (h : endsN ds ks = endsN es ls) (i : Nat) (hi : i < 67) : walkN (ds i) (ks i) = walkN (es i) (ls i) := by
  have h1 := congrArg (fun l => l[i]?) h
  simpa [endsN, hi] using h1
theorem wots_forged (seed m other : Dig) (sig : List Dig) (hne : other ≠ m)
    (h1 : ∀ i, i < 67 → ¬ ((digitsN other.l).getD i 0 < (digitsN m.l).getD i 0 ∧ walkN (sig.getD i zeroD) ((digitsN m.l).getD i 0 - (digitsN other.l).getD i 0) = walkN (wSecretN seed i) ((digitsN m.l).getD i 0)))
    (h2 : ∀ i, i < 67 → ∀ k, k < 15 - (digitsN other.l).getD i 0 → ¬ Meets (walkN (wSecretN seed i) ((digitsN other.l).getD i 0 + k)) (walkN (sig.getD i zeroD) k)) :
    endsN (wSecretN seed) (fun _ => 15) ≠ endsN (fun i => sig.getD i zeroD) fun i => 15 - (digitsN other.l).getD i 0 := by
  intro he
  have hl : lessTo (digitsN other.l) (digitsN m.l) 67 = true := by
    cases hc : lessTo (digitsN other.l) (digitsN m.l) 67 with
    | true => rfl
    | false => exact absurd (apart_law other m hc) hne
  simp only [lessTo, List.any_eq_true, List.mem_range, decide_eq_true_eq] at hl
  obtain ⟨i, hi, hlt⟩ := hl
  have hw := ends_inj he i hi
  have hb := digit_le15 other i hi
  have hs := walk_back (wSecretN seed i) (sig.getD i zeroD) ((digitsN other.l).getD i 0) (15 - (digitsN other.l).getD i 0) (by rw [show (digitsN other.l).getD i 0 + (15 - (digitsN other.l).getD i 0) = 15 by omega]; exact hw) (h2 i hi)
  refine h1 i hi ⟨hlt, ?_⟩
  rw [← hs, walkN_add]
  congr 1
  omega
theorem wots_forged_at (seed m other : Dig) (sig : List Dig) (hne : other ≠ m) (N : Nat) (hN : N = 67)
    (h1 : ∀ i, i < N → ¬ ((digitsN other.l).getD i 0 < (digitsN m.l).getD i 0 ∧ walkN (sig.getD i zeroD) ((digitsN m.l).getD i 0 - (digitsN other.l).getD i 0) = walkN (wSecretN seed i) ((digitsN m.l).getD i 0)))
    (h2 : ∀ i, i < N → ∀ k, k < 15 - (digitsN other.l).getD i 0 → ¬ Meets (walkN (wSecretN seed i) ((digitsN other.l).getD i 0 + k)) (walkN (sig.getD i zeroD) k)) :
    (List.range N).map (fun j => walkN (wSecretN seed j) 15) ≠ (List.range N).map fun j => walkN (sig.getD j zeroD) (15 - (digitsN other.l).getD j 0) := by
  subst hN
  have := wots_forged seed m other sig hne h1 h2
  unfold endsN at this
  exact this
theorem wots_told_at (seed other : Dig) (sig : List Dig) (h : wRecN other sig = wotsN seed) (N : Nat) (hN : N = 67) :
    ofN 7 ((List.range N).map fun j => walkN (wSecretN seed j) 15) = ofN 7 ((List.range N).map fun j => walkN (sig.getD j zeroD) (15 - (digitsN other.l).getD j 0)) := by
  subst hN
  unfold wRecN wotsN endsN at h
  exact h.symm
end Go.Proofs.YtnofmbajgjmdfabDoor
