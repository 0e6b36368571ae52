/-
  Proved here: how arguments of a row are opened: a digest by value. No condition on any program.
-/
import Derived.Test.YtkkmfkpanpjgbaaDoorDig
import Derived.ProofKit
import Derived.OpenShut
import Derived.ShutString
import Derived.ChangeOld
set_option linter.unusedSimpArgs false
set_option linter.unusedVariables false
namespace Go.Proofs.YtkkmfkpanpjgbaaDoor
open Go.ChangeShapes Go.WideShapes Go.ChangeAt Go.RowKit

section
variable {P : Program} {H : Type} {enc : TypeId × Value → H} {W : World} {base : Nat} {spare : Nat → Bool} {held : Bool}

/-- a cell that reads as a byte -/
theorem byte_of_trod {e : TypeId} {m : Nat} {c : Value} {y : DataW H × List MemPlace} (he : P.underlying e = some (.int .u8)) (h : DataW.trod enc P W base spare held m e [c] = some y) : ∃ b : UInt8, c = byteV b := by
  obtain ⟨n, hc, _, hw⟩ := DataW.trod_int he h
  have hb : 0 ≤ n ∧ n ≤ 255 := by simpa [Lit.wf, IntKind.min, IntKind.max, IntKind.signed, IntKind.bits] using hw
  refine ⟨UInt8.ofNat n.toNat, ?_⟩
  have : c = .int .u8 n := by simpa using hc
  rw [this]
  unfold byteV
  congr 1
  rw [UInt8.toNat_ofNat']
  omega

theorem bytes_of_cells {cs : List Value} (h : ∀ i (hi : i < cs.length), ∃ b : UInt8, cs[i] = byteV b) : ∃ l : List UInt8, cs = bytesL l := by
  induction cs with
  | nil => exact ⟨[], rfl⟩
  | cons c cs ih =>
    obtain ⟨b, hb⟩ := h 0 (by simp)
    obtain ⟨l, hl⟩ := ih (fun i hi => by
      have := h (i + 1) (by simpa using hi)
      simpa using this)
    refine ⟨b :: l, ?_⟩
    simp only [List.getElem_cons_zero] at hb
    simp [bytesL, hb]
    simpa [bytesL] using hl

theorem dig_of_trod {t e : TypeId} {fuel : Nat} {cs : List Value} {x : DataW H × List MemPlace} (ht : P.underlying t = some (.array 32 e)) (he : P.underlying e = some (.int .u8)) (hce : P.cellsOf e = 1) (hct : P.cellsOf t = 32)
    (h : DataW.trod enc P W base spare held fuel t cs = some x) : ∃ D : Dig, cs = bytesL D.l := by
  obtain ⟨xs, m, _, _, hlen, hxl, hx⟩ := DataW.trod_array ht h
  rw [hct] at hlen
  obtain ⟨l, hl⟩ := bytes_of_cells (cs := cs) (fun i hi => by
    have hi' : i < 32 := by omega
    have h1 := hx i hi'
    rw [hce, Nat.mul_one, List.drop_eq_getElem_cons hi, List.take_succ_cons, List.take_zero] at h1
    have h2 : xs[i]? = some (xs[i]'(by omega)) := List.getElem?_eq_getElem (by omega)
    rw [h2] at h1
    exact byte_of_trod he h1)
  exact ⟨⟨l, by rw [← length_bytesL, ← hl]; exact hlen⟩, hl⟩

theorem open_dig {r : Reach} {b0 : Nat} {t e : TypeId} {v : Value} {d : DataW H} {p : List MemPlace} (ht : P.underlying t = some (.array 32 e)) (he : P.underlying e = some (.int .u8)) (hce : P.cellsOf e = 1) (hct : P.cellsOf t = 32)
    (hval : Value.okWide P W r b0 t v) (h : DataW.Trod enc P W base spare held t v d p) : ∃ D : Dig, v = D.v := by
  simp only [Value.okWide, ht] at hval
  obtain ⟨cs, rfl, _⟩ := hval
  obtain ⟨fuel, hf⟩ := h
  obtain ⟨D, hD⟩ := dig_of_trod ht he hce hct hf
  refine ⟨D, ?_⟩
  have : cs = (bytesL D.l).toArray := by
    apply Array.ext'
    simpa [Value.cells] using hD
  rw [this]
  rfl
end
end Go.Proofs.YtkkmfkpanpjgbaaDoor
