/-
  Proved here: the contract of the program's digits of bytes. Condition: bytes of a length that a slice may have.
-/
import Derived.Test.YtaebeemnipafbaaGreatDoorEl
import Derived.Test.YtaebeemnipafbaaGreatDoorBuilder
import Derived.Test.YtaebeemnipafbaaGreatDoorLawB
import Derived.Test.YtaebeemnipafbaaGreatDoorShelf
import Derived.Deep.DeepCutAuto
import Derived.Deep.RegionWith
set_option maxRecDepth 20000
set_option linter.unusedSimpArgs false
set_option linter.unusedVariables false
namespace Go.Proofs.YtaebeemnipafbaaGreatDoor
open Go.RowKit

def digitsS : ByteArray := ⟨#[48, 49, 50, 51, 52, 53, 54, 55, 56, 57, 97, 98, 99, 100, 101, 102]⟩
def hexB (k : Nat) : UInt8 := digitsS.data.toList.getD k 0
def hexL (l : List UInt8) : List UInt8 := l.flatMap fun x => [hexB (x.toNat / 16), hexB (x.toNat % 16)]
theorem hexL_take (l : List UInt8) (i : Nat) (h : i < l.length) : hexL (l.take (i + 1)) = hexL (l.take i) ++ [hexB ((l.getD i 0).toNat / 16)] ++ [hexB ((l.getD i 0).toNat % 16)] := by
  rw [List.take_succ_eq_append_getElem h, hexL, List.flatMap_append]
  simp [hexL, List.getD_eq_getElem?_getD, h]
theorem length_hexL (l : List UInt8) : (hexL l).length = 2 * l.length := by
  induction l with
  | nil => rfl
  | cons x l ih => simp only [hexL, List.flatMap_cons, List.length_append, List.length_cons, List.length_nil] at ih ⊢; omega

/-- a byte of a text -/
theorem L_strIdx {P : Program} {ops : Array Oper} {rest : List Oper} {o : Oper} {a : Act} {W : World} {Q : Exit → Act → World → Prop} {d : Option Tmp} (hd : o.dst = d) (hw : Region.wanted o (yielded ops a.tmps) = true) {t : TypeId} {x y : Operand} (ho : o.op = .index t x y) (hu : P.underlying t = some .string) {s : ByteArray} (hx : a.eval x = .string s) {k : IntKind} {i : Int} (hy : a.eval y = .int k i) (j : Nat) (hj : i = (j : Int)) {b : UInt8} (hb : s[j]? = some b)
    (h : wpList P ops Q rest (a.put d (.int .u8 (b.toNat : Int))) W) : wpList P ops Q (o :: rest) a W := by
  subst hj
  refine L_val hd hw ?_ h
  unfold execOp
  simp only [ho, hx, hy]
  simp [Instr.index, asIntOf, run_underlying hu, hb]
theorem digitsS_at : ∀ k : Fin 16, digitsS[k.val]? = some (hexB k.val) := by decide +kernel

set_option maxHeartbeats 1000000 in
theorem hex_any (l : List UInt8) (A : Option Addr) (n c : Nat) (w : World) (hx : SlR w A n c 1 (bytesL l)) (hn : 2 * n ≤ 140737488355000) :
    Calls Tryz.prog 134 #[.slice A n c] w fun e w' => e = .returned (.string ⟨(hexL l).toArray⟩) ∧ St w w' [] := by
  have hst := St.refl w
  have hl := hx.1
  rw [length_bytesL, Nat.mul_one] at hl
  have Hl := Lib.hid hl
  have hcap := hx.2.1
  have hmx := hx.2.2.1
  simp only [maxLen] at hmx
  clear hl
  go_enter Tryz.func134, Tryz.ntmps134
  go_wp2_with fail
  have hfb := Lib.fresh_isBuilder 232 5 w
  have hst : St w (w.alloc (.cells #[.pointer none, .slice none 0 0] 232)) [] := (hst.alloc _ _).forget
  generalize w.alloc (.cells #[.pointer none, .slice none 0 0] 232) = w1 at *
  go_loopg [5, 8] n (fun gk s5 s8 wr => ∃ i : Nat, Hid (i + gk = n) ∧ s8 = .int .i64 (i : Int) ∧ Hid (Lib.IsBuilder 232 5 w.heap.size w.heap.size (Lib.byteCells (hexL (l.take i))) wr) ∧ St w wr [])
  case atStart => exact ⟨0, Lib.hid (by omega), rfl, Lib.hid hfb, hst⟩
  case round =>
    clear hst hfb
    obtain ⟨i, HI, rfl, HB, hst⟩ := hrel
    have hi := HI.out
    by_cases hin : i < n
    · clear hi
      have hb := Lib.hid (show i < l.length by rw [Hl.out]; exact hin)
      have HC := Lib.hid (fun (W : World) (g off : Nat) h => byte_of_range (W := W) (g := g) (off := off) (i := i) (l := l) h hb.out)
      have HT := Lib.hid (hexL_take l i hb.out)
      have HLn := Lib.hid (show (hexL (l.take i)).length = 2 * i by rw [length_hexL, List.length_take, Hl.out]; omega)
      have hx256 := UInt8.toNat_lt (l.getD i 0)
      generalize l.getD i 0 = x at *
      have HD1 := Lib.hid (digitsS_at ⟨x.toNat / 16, by omega⟩)
      have HD2 := Lib.hid (digitsS_at ⟨x.toNat % 16, by omega⟩)
      go_wp2_with (first | (refine L_load1 (d := some 11) rfl rfl rfl (by rfl) Tryz.underlying5 rfl (HC.out _ _ _ hr10) ?_) | (refine L_strIdx (d := some 14) rfl rfl rfl Tryz.underlying9 rfl (by rfl) (x.toNat / 16) (by omega) HD1.out ?_) | (refine L_strIdx (d := some 18) rfl rfl rfl Tryz.underlying9 rfl (by rfl) (x.toNat % 16) (by omega) HD2.out ?_) | (go_at_call 149; first | (refine (writeByte_any w.heap.size w.heap.size _ _ wr HB.out (by rw [Lib.byteCells_length, HLn.out]; omega) hst.below.size).mono ?_; rintro e W15 ⟨rfl, hB1, hbel⟩; have HB1 := Lib.hid hB1; have hst1 : St w W15 [] := ⟨hst.below.trans hbel, by simp, by simp, List.Pairwise.nil⟩; clear hB1 hbel) | (refine (writeByte_any w.heap.size w.heap.size _ _ _ (.inr HB1.out) (by rw [List.length_append, Lib.byteCells_length, HLn.out]; simp; omega) hst1.below.size).mono ?_; rintro e W19 ⟨rfl, hB2, hbel⟩; have HB2 := Lib.hid hB2; have hst2 : St w W19 [] := ⟨hst1.below.trans hbel, by simp, by simp, List.Pairwise.nil⟩; clear hB2 hbel)) | (refine L_idxS (d := some 10) rfl rfl rfl (by rfl) (by rfl) Tryz.underlying22 el_uint8 (by (exact hst.old (by decide) hx)) (by omega) (by omega) ?_; intro o10 p10 ha10 hr10; ((subst ha10))))
      go_roundg (gk - 1)
      case measure => have hi := HI.out; omega
      case rel =>
        have hi := HI.out
        refine ⟨i + 1, Lib.hid (by omega), by go_num, Lib.hid (.inr ?_), hst2⟩
        rw [HT.out]
        have := HB2.out
        simpa [Lib.byteCells] using this
    · obtain rfl : i = n := by omega
      have hta : l.take i = l := List.take_of_length_le (by rw [Hl.out]; exact Nat.le_refl _)
      rw [hta] at HB
      clear hi HI hta
      go_wp2_with ((go_at_call 150; refine (Tryz.Builder_String_any w.heap.size w.heap.size (hexL l) _ HB.out hst.below.size).mono ?_; rintro e W21 ⟨rfl, hbel⟩; have hst1 : St w W21 [] := ⟨hst.below.trans hbel, by simp, by simp, List.Pairwise.nil⟩; clear hbel))
      go_ret
      exact ⟨rfl, hst1⟩
end Go.Proofs.YtaebeemnipafbaaGreatDoor
