/-
  Proved here: bytes of digits, plain: there and back. No program in sight.
-/
import Derived.Test.YtplpmfmnlgepoaaDoorHex
namespace Go.Proofs.YtplpmfmnlgepoaaDoor

/-- what a digit is worth; below 0: it is none -/
def hexV (c : UInt8) : Int := Lib.indexByte digitsS.data.toList c
theorem hexV_all : ∀ k : Fin 256, (hexV (UInt8.ofNat k.val) < 0 ∨ (0 ≤ hexV (UInt8.ofNat k.val) ∧ hexV (UInt8.ofNat k.val) < 16 ∧ hexB (hexV (UInt8.ofNat k.val)).toNat = UInt8.ofNat k.val)) := by decide +kernel
theorem hexV_cases (c : UInt8) : hexV c < 0 ∨ (0 ≤ hexV c ∧ hexV c < 16 ∧ hexB (hexV c).toNat = c) := by
  have h := hexV_all ⟨c.toNat, UInt8.toNat_lt c⟩
  have e : UInt8.ofNat c.toNat = c := by simp
  simp only [e] at h
  exact h
theorem hexV_B : ∀ k : Fin 16, hexV (hexB k.val) = (k.val : Int) := by decide +kernel
/-- is the j-th pair one of digits? -/
def pairOk (s : List UInt8) (j : Nat) : Prop := 0 ≤ hexV (s.getD (2 * j) 0) ∧ 0 ≤ hexV (s.getD (2 * j + 1) 0)
def pairB (s : List UInt8) (j : Nat) : UInt8 := UInt8.ofNat ((hexV (s.getD (2 * j) 0)).toNat * 16 + (hexV (s.getD (2 * j + 1) 0)).toNat)
/-- the bytes of the first pairs -/
def decL (s : List UInt8) (m : Nat) : List UInt8 := (List.range m).map (pairB s)
theorem decL_succ (s : List UInt8) (m : Nat) : decL s (m + 1) = decL s m ++ [pairB s m] := by simp [decL, List.range_succ]
theorem length_decL (s : List UInt8) (m : Nat) : (decL s m).length = m := by simp [decL]
theorem hexL_at : ∀ (l : List UInt8) (j : Nat), j < l.length → (hexL l).getD (2 * j) 0 = hexB ((l.getD j 0).toNat / 16) ∧ (hexL l).getD (2 * j + 1) 0 = hexB ((l.getD j 0).toNat % 16)
  | [], j, h => by simp at h
  | x :: l, 0, _ => by simp [hexL]
  | x :: l, j + 1, h => by
    have := hexL_at l j (by simpa using h)
    have e1 : 2 * (j + 1) = 2 * j + 1 + 1 := by omega
    simp only [hexL, List.flatMap_cons] at this ⊢
    rw [e1]
    simpa [List.getD_eq_getElem?_getD] using this
theorem hexL_ok (l : List UInt8) (j : Nat) (h : j < l.length) : pairOk (hexL l) j := by
  have hx := UInt8.toNat_lt (l.getD j 0)
  obtain ⟨h1, h2⟩ := hexL_at l j h
  unfold pairOk
  rw [h1, h2, hexV_B ⟨_, by omega⟩, hexV_B ⟨_, by omega⟩]
  constructor <;> omega
theorem hexL_pair (l : List UInt8) (j : Nat) (h : j < l.length) : pairB (hexL l) j = l.getD j 0 := by
  have hx := UInt8.toNat_lt (l.getD j 0)
  obtain ⟨h1, h2⟩ := hexL_at l j h
  unfold pairB
  rw [h1, h2, hexV_B ⟨_, by omega⟩, hexV_B ⟨_, by omega⟩]
  simp only [Int.toNat_natCast]
  rw [show (l.getD j 0).toNat / 16 * 16 + (l.getD j 0).toNat % 16 = (l.getD j 0).toNat by omega]
  simp
/-- digits of bytes, and back -/
theorem dec_hex (l : List UInt8) : decL (hexL l) l.length = l := by
  apply List.ext_getElem?
  intro i
  by_cases h : i < l.length
  · simp only [decL, List.getElem?_map, List.getElem?_range h, Option.map_some, hexL_pair l i h, List.getElem?_eq_getElem h]
    simp [List.getD_eq_getElem?_getD, h]
  · rw [List.getElem?_eq_none (by rw [length_decL]; omega), List.getElem?_eq_none (by omega)]
theorem hexL_decL (s : List UInt8) : ∀ m, 2 * m ≤ s.length → (∀ j, j < m → pairOk s j) → hexL (decL s m) = s.take (2 * m)
  | 0, _, _ => by simp [decL, hexL]
  | m + 1, hm, h => by
    have ih := hexL_decL s m (by omega) (fun j hj => h j (by omega))
    obtain ⟨h1, h2⟩ := h m (by omega)
    have c1 := (hexV_cases (s.getD (2 * m) 0)).resolve_left (by omega)
    have c2 := (hexV_cases (s.getD (2 * m + 1) 0)).resolve_left (by omega)
    have hn1 : ((pairB s m).toNat) = (hexV (s.getD (2 * m) 0)).toNat * 16 + (hexV (s.getD (2 * m + 1) 0)).toNat := by
      unfold pairB
      rw [UInt8.toNat_ofNat', Nat.mod_eq_of_lt (by omega)]
    have e1 : (pairB s m).toNat / 16 = (hexV (s.getD (2 * m) 0)).toNat := by omega
    have e2 : (pairB s m).toNat % 16 = (hexV (s.getD (2 * m + 1) 0)).toNat := by omega
    rw [decL_succ, show hexL (decL s m ++ [pairB s m]) = hexL (decL s m) ++ [hexB ((pairB s m).toNat / 16), hexB ((pairB s m).toNat % 16)] by simp [hexL], ih, e1, e2, c1.2.2, c2.2.2]
    have g1 : s.getD (2 * m) 0 = s[2 * m]'(by omega) := by simp [List.getD_eq_getElem?_getD, show 2 * m < s.length by omega]
    have g2 : s.getD (2 * m + 1) 0 = s[2 * m + 1]'(by omega) := by simp [List.getD_eq_getElem?_getD, show 2 * m + 1 < s.length by omega]
    rw [g1, g2, show 2 * (m + 1) = 2 * m + 1 + 1 by omega, List.take_succ_eq_append_getElem (show 2 * m + 1 < s.length by omega), List.take_succ_eq_append_getElem (show 2 * m < s.length by omega), List.append_assoc]
    rfl
/-- bytes of digits, and back -/
theorem hex_dec (s : List UInt8) (m : Nat) (hs : s.length = 2 * m) (h : ∀ j, j < m → pairOk s j) : hexL (decL s m) = s := by
  rw [hexL_decL s m (by omega) h, List.take_of_length_le (by omega)]
end Go.Proofs.YtplpmfmnlgepoaaDoor
