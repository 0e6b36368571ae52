/-
  Proved here: a text without a rune that no name has is a text whose bytes are all bytes of names. No condition on any program.
-/
import Derived.Test.YtaebeemnipafbaaGreatDoorLogPlain
import Derived.Shelf.GgClosure.StringsIndexFunc
import Derived.Laws.Closers25b
import Derived.Test.YtaebeemnipafbaaGreatDoorSq
set_option linter.unusedSimpArgs false
set_option linter.unusedVariables false
set_option maxRecDepth 100000
set_option maxHeartbeats 200000000
namespace Go.Proofs.YtaebeemnipafbaaGreatDoor
open Go.Shelf
def GZ (l : List UInt8) : ByteArray := ⟨l.toArray⟩
theorem Hf (l : List UInt8) : (GZ l).size = l.length := by simp [GZ, ByteArray.size]
theorem Km (l : List UInt8) : (GZ l).data.toList = l := by simp [GZ]
theorem bsOf_inj {a b : List UInt8} (h : GZ a = GZ b) : a = b := by rw [← Km a, h, Km]
theorem bsOf_eta (s : ByteArray) : s = GZ s.data.toList := by cases s; simp [GZ]
theorem bsOf_get (l : List UInt8) (i : Nat) (h : i < l.length) : (GZ l).get! i = l[i] := by
 show (GZ l).data[i]! = _
 simp [GZ, h]
theorem bsOf_nil : (GZ []).toList.isEmpty = true := by
 rw [List.isEmpty_iff]
 exact (toList_nil_iff_emptyBytes _).2 rfl
theorem NA {l : List UInt8} (h : l ≠ []) : (GZ l).toList.isEmpty = false := by
 cases he : (GZ l).toList.isEmpty with
 | false => rfl
 | true =>
  rw [List.isEmpty_iff] at he
  have := (toList_nil_iff_emptyBytes _).1 he
  exact absurd (bsOf_inj (a := l) (b := []) this) h
def nmP (r : Nat) : Bool := !decide (97 ≤ r ∧ r ≤ 122 ∨ 48 ≤ r ∧ r ≤ 57 ∨ r = 45)
theorem nmP_ge {r : Nat} (h : 128 ≤ r) : nmP r = true := by
 unfold nmP
 rw [decide_eq_false (by omega)]
 rfl
theorem nmP_byte (b : UInt8) : nmP b.toNat = !okB b := rfl
theorem decode_lt {s : ByteArray} {i : Nat} (h : (s.get! i).toNat < 128) : Utf8.decode s i = ((s.get! i).toNat, 1) := by
 unfold Utf8.decode
 simp only [Nat.add_zero]
 rw [if_pos h]
theorem decode_ge {s : ByteArray} {i : Nat} (h : 128 ≤ (s.get! i).toNat) : 128 ≤ (Utf8.decode s i).1 := by
 unfold Utf8.decode
 simp only [Nat.add_zero]
 rw [if_neg (by omega)]
 repeat' split
 all_goals first | (simp [Utf8.runeError]; done) | (rename_i hc; simp only [Bool.and_eq_true, decide_eq_true_eq, ge_iff_le] at hc; first | exact hc | exact Nat.le_trans (by decide) hc.1)
theorem name_from (l : List UInt8) : ∀ (f pos : Nat), l.length - pos ≤ f → decide (0 ≤ Lib.idxFuncFrom nmP true (GZ l) f pos) = !((l.drop pos).all okB)
 | 0, pos, h => by
  rw [List.drop_eq_nil_of_le (by omega)]
  rfl
 | f + 1, pos, h => by
  unfold Lib.idxFuncFrom
  rw [Hf]
  by_cases hp : pos < l.length
  ·rw [if_pos hp, List.drop_eq_getElem_cons hp, List.all_cons]
   have hg := bsOf_get l pos hp
   by_cases hb : (l[pos]).toNat < 128
   ·rw [decode_lt (by rw [hg]; exact hb), hg]
    simp only
    rw [nmP_byte]
    by_cases hk : okB l[pos] = true
    ·rw [hk]
     simp only [Bool.not_true, Bool.false_eq_true, if_false, Bool.true_and]
     exact name_from l f (pos + 1) (by omega)
    ·rw [Bool.eq_false_iff.2 hk]
     simp
   ·have h1 := decode_ge (s := GZ l) (i := pos) (by rw [hg]; omega)
    rw [nmP_ge h1]
    have hk : okB l[pos] = false := by
     unfold okB
     rw [decide_eq_false (by omega)]
    rw [hk]
    simp
  ·rw [if_neg hp, List.drop_eq_nil_of_le (by omega)]
   rfl
theorem name_idx (l : List UInt8) : decide (0 ≤ Lib.idxFunc nmP true (GZ l)) = !l.all okB := by
 have := name_from l (GZ l).size 0 (by rw [Hf]; omega)
 rw [List.drop_zero] at this
 exact this
end Go.Proofs.YtaebeemnipafbaaGreatDoor
