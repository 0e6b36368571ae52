/-
  Proved here: the contracts of slices.Grow (of the nil slice) and slices.Concat at bytes: one slice with all the pieces, one behind the other. Condition: the pieces are together no longer than a slice may be.
-/
import Derived.Test.YtkbleigmfcleaaaDoorOpenS
import Derived.Test.YtkbleigmfcleaaaDoorLawD
import Derived.Test.YtkbleigmfcleaaaDoorLawE
import Derived.Lib.AppendZerosOnto
import Derived.Deep.DeepCutAuto
import Derived.Deep.RegionWith
set_option maxRecDepth 20000
set_option linter.unusedSimpArgs false
set_option linter.unusedVariables false
namespace Go.Proofs.YtkbleigmfcleaaaDoor
open Go.RowKit

/-- all of them, one behind the other -/
def allPc (ps : List Piece) : List UInt8 := ps.flatMap fun p => p.2.2.2
theorem allPc_nil : allPc [] = [] := rfl
theorem allPc_cons (p : Piece) (ps : List Piece) : allPc (p :: ps) = p.2.2.2 ++ allPc ps := rfl
theorem allPc_take (ps : List Piece) (i : Nat) (h : i < ps.length) : allPc (ps.take (i + 1)) = allPc (ps.take i) ++ (ps[i]).2.2.2 := by
  unfold allPc
  rw [List.take_succ_eq_append_getElem h, List.flatMap_append, List.flatMap_cons, List.flatMap_nil, List.append_nil]
theorem allPc_take_le (ps : List Piece) (i : Nat) : (allPc (ps.take i)).length ≤ (allPc ps).length := by
  have : allPc ps = allPc (ps.take i) ++ allPc (ps.drop i) := by
    rw [allPc, allPc, allPc, ← List.flatMap_append, List.take_append_drop]
  rw [this, List.length_append]
  omega
/-- the cells of a slice of pieces -/
def piecesL (ps : List Piece) : List Value := ps.map Piece.v
theorem piece_at {W : World} {g off i : Nat} {ps : List Piece} (h : W.rangeAt g (off + (i : Int).toNat * 1) (((piecesL ps).drop ((i : Int).toNat * 1)).take 1)) (hi : i < ps.length) : W.cell? ⟨g, off + (i : Int).toNat * 1, none⟩ = some (.slice ps[i].1 ps[i].2.1 ps[i].2.2.1) := by
  have := h 0 ps[i].v (by simp [piecesL, hi])
  simpa [Piece.v] using this

set_option maxHeartbeats 2000000 in
theorem growB_any (n : Nat) (w : World) (hn : n ≤ 140737488355328) :
    Calls Tryd.prog 74 #[.slice none 0 0, .int .i64 (n : Int)] w fun e w' => ∃ O c, e = .returned (.slice O 0 c) ∧ St w w' [.row O 0 c 5 1 []] := by
  by_cases h0 : n = 0
  · subst h0
    have hst := St.refl w
    go_enter Tryd.func74, Tryd.ntmps74
    go_wp2_with (first
      | fail)
    go_ret
    exact ⟨none, 0, rfl, hst.nilRow _ 1⟩
  · obtain ⟨i, hi, hiz, his, hib⟩ := el_uint8.parts
    have hrz : ∀ ty, (Builtin.append_ #[49, 3] ty #[.slice none 0 0, .int .i64 (n : Int)]).run Tryd.prog w =
        .ok (.slice (some ⟨w.heap.size, 0, none⟩) n (grownCap w n 0 5)) (w.drew.alloc (.cells (Builtin.zeroCells (Value.int .u8 0).cells n ++ Builtin.zeroCells (Value.int .u8 0).cells (grownCap w n 0 5 - n)) 5)) := fun ty => by
      have h := Lib.run_append_grow_zeros w 49 3 ty 5 i _ .i64 .i64 Tryd.underlying49 Tryd.underlying3 hi hiz none 0 0 [] (run_firstCells_none w.drew i.size 0 0 0) n (by omega) (by rw [his]; decide) (by omega) (by omega) (by rw [hib]; omega) (growslice_fits (by omega) (by rw [hib]; omega))
      simpa using h
    have hge : n ≤ grownCap w n 0 5 := grownCap_ge w _ _ _
    have hcm := grownCap_le_maxLen w n 0 5 (by unfold maxLen; omega)
    have hst : St w (w.drew.alloc (.cells (Builtin.zeroCells (Value.int .u8 0).cells n ++ Builtin.zeroCells (Value.int .u8 0).cells (grownCap w n 0 5 - n)) 5)) [.row (some ⟨w.heap.size, 0, none⟩) 0 (grownCap w n 0 5) 5 1 []] :=
      ((St.refl w).drew).allocRow 5 ⟨by simp, by omega, hcm, by simp [size_zeroCells, Value.cells]; omega, fun j v hv => by simp at hv⟩
    obtain ⟨G, hG⟩ : ∃ G, G = grownCap w n 0 5 := ⟨_, rfl⟩
    rw [← hG] at hrz hge hcm hst
    simp only [maxLen] at hcm
    clear hG
    have h1 : ¬ (n : Int) < 0 := by omega
    have h3 : wrap64 ((n : Int) - 0) = (n : Int) := by unfold wrap64; omega
    have h4 : (0 : Int) < (n : Int) := by omega
    go_enter Tryd.func74, Tryd.ntmps74
    go_wp2_with (at_builtin; refine Lib.wpList_append_run _ rfl _ _ _ _ rfl _ _ rfl rfl _ _ (hrz _) ?_)
    all_goals
      go_ret
      exact ⟨_, _, rfl, hst⟩

set_option maxHeartbeats 2000000 in
set_option maxRecDepth 100000 in
theorem concat_any (ps : List Piece) (A : Option Addr) (n c : Nat) (w : World) (hs : SlR w A n c 1 (piecesL ps)) (hp : ∀ p ∈ ps, SlR w p.1 p.2.1 p.2.2.1 1 (bytesL p.2.2.2)) (hb : (allPc ps).length ≤ 140737488355328) :
    Calls Tryd.prog 50 #[.slice A n c] w fun e w' => ∃ O oc, e = .returned (.slice O (allPc ps).length oc) ∧ St w w' [.row O (allPc ps).length oc 5 1 (bytesL (allPc ps))] := by
  have hst := St.refl w
  have hnl := hs.1
  rw [piecesL, List.length_map, Nat.mul_one] at hnl
  have Hnl := Lib.hid hnl
  have Hp := Lib.hid hp
  have Hb := Lib.hid hb
  have hcm := hs.2.2.1
  have hnc := hs.2.1
  simp only [maxLen] at hcm
  clear hnl hp hb
  go_enter Tryd.func50, Tryd.ntmps50
  go_wp2_with (first
    | fail)
  go_loopg [3, 11] n (fun gk s3 s11 wr => ∃ (i m : Nat), Hid (i + gk = n) ∧ Hid ((allPc (ps.take i)).length = m) ∧ m ≤ 140737488355328 ∧ s3 = .int .i64 (m : Int) ∧ s11 = .int .i64 (i : Int) ∧ St w wr [])
  case atStart => exact ⟨0, 0, Lib.hid (by omega), Lib.hid rfl, by omega, rfl, rfl, hst⟩
  case round =>
    clear hst
    obtain ⟨i, m, HI, HM, hm, rfl, rfl, hst⟩ := hrel
    have hi := HI.out
    by_cases hin : i < n
    · clear hi
      have hil := Lib.hid (show i < ps.length by rw [Hnl.out]; exact hin)
      have HC := Lib.hid (fun (W : World) (g off : Nat) h => piece_at (W := W) (g := g) (off := off) (i := i) (ps := ps) h hil.out)
      have HA := Lib.hid (allPc_take ps i hil.out)
      have hle := allPc_take_le ps (i + 1)
      have hbb := Hb.out
      have hpl := (Hp.out ps[i] (List.getElem_mem hil.out)).1
      rw [HA.out, List.length_append, HM.out] at hle
      generalize ps[i]'hil.out = q at HC HA hle hpl
      obtain ⟨PA, pn, pc, pl⟩ := q
      dsimp only at HC HA hle hpl
      simp only [length_bytesL, Nat.mul_one] at hle hpl
      have hmp : m + pn ≤ 140737488355328 := by omega
      have Hpl := Lib.hid hpl
      clear hle hbb hpl
      go_wp2_with (first
        | (refine L_load1 (d := some 14) rfl rfl rfl (by rfl) Tryd.underlying49 rfl (HC.out _ _ _ hr13) ?_)
        | (refine L_idxS (d := some 13) rfl rfl rfl (by rfl) (by rfl) Tryd.underlying37 el_S_uint8 (by first | exact hst.old (by decide) hs | assumption | exact hst.sl 0 rfl | exact hst.old (by decide) (by assumption)) (by omega) (by omega) ?_; intro o13 p13 ha13 hr13; (first | subst ha13 | (obtain ⟨h1, h2⟩ := some_addr ha13; subst h1; subst h2; clear ha13) | skip))
        | (refine L_load1 (d := some 14) rfl rfl rfl (by rfl) Tryd.underlying49 rfl (by first | assumption | exact cell_of (hst.get 0 rfl) rfl) ?_)
        | fail)
      all_goals
        go_roundg (gk - 1)
        case measure => have hi := HI.out; omega
        case rel =>
          have hi := HI.out
          exact ⟨i + 1, m + pn, Lib.hid (by omega), Lib.hid (by rw [HA.out, List.length_append, HM.out, Hpl.out]), hmp, by go_num, by go_num, hst⟩
    · obtain rfl : i = n := by omega
      clear hi HI
      have HL := Lib.hid (show (allPc ps).length = m by rw [← HM.out, List.take_of_length_le (by rw [Hnl.out]; exact Nat.le_refl _)])
      clear HM
      go_wp2_with (first
        | (go_at_call 74; (try clear hnew); refine (growB_any m _ hm).mono ?_; rintro e Wk1 ⟨O24, c24, rfl, hnew⟩; replace hst := hst.trans hnew; simp only [List.cons_append, List.nil_append] at hst)
        | fail)
      (try clear hnew)
      go_loopg [6, 27] i (fun gk s6 s27 wr => ∃ (j q oc : Nat) (O : Option Addr), Hid (j + gk = i) ∧ Hid ((allPc (ps.take j)).length = q) ∧ s6 = .slice O q oc ∧ s27 = .int .i64 (j : Int) ∧ St w wr [.row O q oc 5 1 (bytesL (allPc (ps.take j)))])
      case atStart => exact ⟨0, 0, _, _, Lib.hid (by omega), Lib.hid rfl, rfl, rfl, hst⟩
      case round =>
        clear hst
        obtain ⟨j, q, oc, O, HJ, HQ, rfl, rfl, hst⟩ := hrel
        have hj := HJ.out
        by_cases hjn : j < i
        · clear hj
          have hil := Lib.hid (show j < ps.length by rw [Hnl.out]; exact hjn)
          have HC := Lib.hid (fun (W : World) (g off : Nat) h => piece_at (W := W) (g := g) (off := off) (i := j) (ps := ps) h hil.out)
          have HP := Hp.out (ps[j]'hil.out) (List.getElem_mem hil.out)
          have HA := Lib.hid (allPc_take ps j hil.out)
          have hle := allPc_take_le ps (j + 1)
          have hbb := Hb.out
          have hpl := HP.1
          rw [HA.out, List.length_append, HQ.out] at hle
          generalize ps[j]'hil.out = r at HC HP HA hle hpl
          obtain ⟨PA, pn, pc, pl⟩ := r
          dsimp only at HC HP HA hle hpl
          simp only [length_bytesL, Nat.mul_one] at hle hpl
          have hmp : q + pn ≤ 140737488355328 := by omega
          have Hpl := Lib.hid hpl
          clear hle hbb hpl
          generalize hal : allPc (ps.take j) = al at hst
          go_wp2_with (first
            | (refine L_load1 (d := some 30) rfl rfl rfl (by rfl) Tryd.underlying49 rfl (HC.out _ _ _ hr29) ?_)
            | (refine L_idxS (d := some 29) rfl rfl rfl (by rfl) (by rfl) Tryd.underlying37 el_S_uint8 (by first | exact hst.old (by decide) hs | exact hst.old (by decide) HP | assumption | exact hst.sl 0 rfl | exact hst.old (by decide) (by assumption)) (by omega) (by omega) ?_; intro o29 p29 ha29 hr29; (first | subst ha29 | (obtain ⟨h1, h2⟩ := some_addr ha29; subst h1; subst h2; clear ha29) | skip))
            | (refine L_load1 (d := some 30) rfl rfl rfl (by rfl) Tryd.underlying49 rfl (by first | assumption | exact cell_of (hst.get 0 rfl) rfl) ?_)
            | (refine L_appendO (d := some 33) rfl rfl hst rfl (by rfl) (by rfl) Tryd.underlying49 el_uint8 rfl (by decide) (by decide) 0 rfl (by first | rfl | omega) (by first | exact hst.old (by decide) hs | exact hst.old (by decide) HP | exact hst.sl 0 rfl | assumption | exact hst.old (by decide) (by assumption)) (by first | exact oneCell_bytes | (simp [Value.oneCell']; done)) (by omega) ?_; clear hst; intro A33 c33 W33 hst; simp only [List.set_cons_zero, List.set_cons_succ, List.nil_append, Nat.zero_add] at hst)
            | (refine L_appendF (d := some 33) rfl rfl rfl (by rfl) (by rfl) Tryd.underlying49 el_uint8 rfl (by decide) (by assumption) (by first | assumption | exact hst.old (by decide) hs | exact hst.old (by decide) HP | exact hst.sl 0 rfl | assumption | exact hst.old (by decide) (by assumption)) (by omega) (by omega) (by omega) ?_; (try clear hnew); intro A33 c33 W33 hnew; replace hst := hst.trans hnew; simp only [List.cons_append, List.nil_append] at hst)
            | fail)
          go_roundg (gk - 1)
          case measure => have hj := HJ.out; omega
          case rel =>
            have hj := HJ.out
            refine ⟨j + 1, q + pn, _, _, Lib.hid (by omega), Lib.hid (by rw [HA.out, List.length_append, HQ.out, Hpl.out]), rfl, by go_num, ?_⟩
            rw [HA.out, bytesL_append, hal]
            exact hst
        · obtain rfl : j = i := by omega
          clear hj HJ
          have hall : allPc (ps.take j) = allPc ps := by rw [List.take_of_length_le (by rw [Hnl.out]; exact Nat.le_refl _)]
          rw [hall] at hst
          obtain rfl : (allPc ps).length = q := by rw [← HQ.out, hall]
          clear hall HQ
          go_wp2_with (first
            | fail)
          go_ret
          exact ⟨_, _, rfl, hst⟩
theorem concat3_any (l1 l2 l3 : List UInt8) (B1 B2 B3 : Option Addr) (n1 c1 n2 c2 n3 c3 : Nat) (A : Option Addr) (c : Nat) (w : World) (hs : SlR w A 3 c 1 [.slice B1 n1 c1, .slice B2 n2 c2, .slice B3 n3 c3])
    (h1 : SlR w B1 n1 c1 1 (bytesL l1)) (h2 : SlR w B2 n2 c2 1 (bytesL l2)) (h3 : SlR w B3 n3 c3 1 (bytesL l3)) (hb : n1 + n2 + n3 ≤ 140737488355328) :
    Calls Tryd.prog 50 #[.slice A 3 c] w fun e w' => ∃ O oc, e = .returned (.slice O (n1 + n2 + n3) oc) ∧ St w w' [.row O (n1 + n2 + n3) oc 5 1 (bytesL (l1 ++ (l2 ++ l3)))] := by
  have e1 := h1.1
  have e2 := h2.1
  have e3 := h3.1
  rw [length_bytesL, Nat.mul_one] at e1 e2 e3
  have hl : allPc [((B1, n1, c1, l1) : Piece), (B2, n2, c2, l2), (B3, n3, c3, l3)] = l1 ++ (l2 ++ l3) := by simp [allPc]
  have hn : (l1 ++ (l2 ++ l3)).length = n1 + n2 + n3 := by rw [List.length_append, List.length_append]; omega
  have := concat_any [((B1, n1, c1, l1) : Piece), (B2, n2, c2, l2), (B3, n3, c3, l3)] A 3 c w hs (by
    intro p hp
    simp only [List.mem_cons, List.not_mem_nil, or_false] at hp
    rcases hp with rfl | rfl | rfl
    · exact h1
    · exact h2
    · exact h3) (by rw [hl, hn]; exact hb)
  rw [hl, hn] at this
  exact this
theorem concat4_any (l1 l2 l3 l4 : List UInt8) (B1 B2 B3 B4 : Option Addr) (n1 c1 n2 c2 n3 c3 n4 c4 : Nat) (A : Option Addr) (c : Nat) (w : World) (hs : SlR w A 4 c 1 [.slice B1 n1 c1, .slice B2 n2 c2, .slice B3 n3 c3, .slice B4 n4 c4])
    (h1 : SlR w B1 n1 c1 1 (bytesL l1)) (h2 : SlR w B2 n2 c2 1 (bytesL l2)) (h3 : SlR w B3 n3 c3 1 (bytesL l3)) (h4 : SlR w B4 n4 c4 1 (bytesL l4)) (hb : n1 + n2 + n3 + n4 ≤ 140737488355328) :
    Calls Tryd.prog 50 #[.slice A 4 c] w fun e w' => ∃ O oc, e = .returned (.slice O (n1 + n2 + n3 + n4) oc) ∧ St w w' [.row O (n1 + n2 + n3 + n4) oc 5 1 (bytesL (l1 ++ (l2 ++ (l3 ++ l4))))] := by
  have e1 := h1.1
  have e2 := h2.1
  have e3 := h3.1
  have e4 := h4.1
  rw [length_bytesL, Nat.mul_one] at e1 e2 e3 e4
  have hl : allPc [((B1, n1, c1, l1) : Piece), (B2, n2, c2, l2), (B3, n3, c3, l3), (B4, n4, c4, l4)] = l1 ++ (l2 ++ (l3 ++ l4)) := by simp [allPc]
  have hn : (l1 ++ (l2 ++ (l3 ++ l4))).length = n1 + n2 + n3 + n4 := by rw [List.length_append, List.length_append, List.length_append]; omega
  have := concat_any [((B1, n1, c1, l1) : Piece), (B2, n2, c2, l2), (B3, n3, c3, l3), (B4, n4, c4, l4)] A 4 c w hs (by
    intro p hp
    simp only [List.mem_cons, List.not_mem_nil, or_false] at hp
    rcases hp with rfl | rfl | rfl | rfl
    · exact h1
    · exact h2
    · exact h3
    · exact h4) (by rw [hl, hn]; exact hb)
  rw [hl, hn] at this
  exact this
end Go.Proofs.YtkbleigmfcleaaaDoor
