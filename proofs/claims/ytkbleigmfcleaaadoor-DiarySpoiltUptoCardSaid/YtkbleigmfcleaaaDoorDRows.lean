/-
  Proved here: rows of slices of bytes; the contracts of the verifier's look whether two of them are the same (of one list with itself), of the laws' written and wrote. Condition: lengths that slices may have.
-/
import Derived.Test.YtkbleigmfcleaaaDoorDRead
import Derived.Test.YtkbleigmfcleaaaDoorSame
import Derived.Test.YtkbleigmfcleaaaDoorDrawT
set_option maxRecDepth 20000
set_option linter.unusedSimpArgs false
set_option linter.unusedVariables false
namespace Go.Proofs.YtkbleigmfcleaaaDoor
open Go.RowKit

/-- the slice '.slice A n c' has slices of bytes, that read as these lists -/
structure RowsAt (w : World) (A : Option Addr) (n c : Nat) (ls : List (List UInt8)) : Prop where
  ex : ∃ ps : List Piece, SlR w A n c 1 (piecesL ps) ∧ (∀ p ∈ ps, SlR w p.1 p.2.1 p.2.2.1 1 (bytesL p.2.2.2)) ∧ recsP ps = ls
theorem RowsAt.len {w : World} {A : Option Addr} {n c : Nat} {ls : List (List UInt8)} (h : RowsAt w A n c ls) : ls.length = n ∧ n ≤ c ∧ c ≤ maxLen := by
  obtain ⟨ps, h1, _, rfl⟩ := h.ex
  have := h1.1
  simp only [piecesL, List.length_map, Nat.mul_one] at this
  exact ⟨by rw [recsP, List.length_map]; exact this, h1.2.1, h1.2.2.1⟩
theorem RowsAt.old {w0 W : World} {L : List Res} {A : Option Addr} {n c : Nat} {ls : List (List UInt8)} (h : RowsAt w0 A n c ls) (hst : St w0 W L) : RowsAt W A n c ls := by
  obtain ⟨ps, h1, h2, h3⟩ := h.ex
  exact ⟨ps, hst.old (by decide) h1, fun p hp => hst.old (by decide) (h2 p hp), h3⟩
theorem St.slm {w0 W : World} {L : List Res} (h : St w0 W L) {A : Option Addr} {m c e s : Nat} {xs : List Value} (hm : Res.row A m c e s xs ∈ L) : SlR W A m c s xs := by
  obtain ⟨k, hk, he⟩ := List.getElem_of_mem hm
  exact h.sl k (by rw [List.getElem?_eq_getElem hk, he])
theorem RowsAt.read {w0 W : World} {L : List Res} {ps : List Piece} {O : Option Addr} {k oc : Nat} (h : St w0 W L) (h1 : Res.row O k oc 49 1 (piecesL ps) ∈ L) (h2 : ∀ r ∈ clonesR ps.reverse, r ∈ L) : RowsAt W O k oc (recsP ps) :=
  ⟨ps, h.slm h1, fun p hp => h.slm (h2 _ (List.mem_map.2 ⟨p, List.mem_reverse.2 hp, rfl⟩)), rfl⟩
/-- one of them -/
theorem RowsAt.at {w : World} {A : Option Addr} {n c : Nat} {ls : List (List UInt8)} (h : RowsAt w A n c ls) (i : Nat) (hi : i < n) :
    ∃ (B : Option Addr) (k kc : Nat), SlR w B k kc 1 (bytesL (ls.getD i [])) ∧ ∀ {W : World} {g off : Nat} {ps : List Piece}, True → ∃ xs, SlR w A n c 1 xs ∧ xs[i]? = some (.slice B k kc) := by
  obtain ⟨ps, h1, h2, rfl⟩ := h.ex
  have hl := h1.1
  simp only [piecesL, List.length_map, Nat.mul_one] at hl
  have hi' : i < ps.length := by omega
  refine ⟨ps[i].1, ps[i].2.1, ps[i].2.2.1, ?_, fun _ => ⟨piecesL ps, h1, by simp [piecesL, Piece.v, hi']⟩⟩
  have := h2 ps[i] (List.getElem_mem hi')
  simpa [recsP, hi'] using this

set_option maxHeartbeats 2000000 in
theorem sameRows_any (ls : List (List UInt8)) (A B : Option Addr) (n c d : Nat) (w : World) (hx : RowsAt w A n c ls) (hy : RowsAt w B n d ls) :
    Calls Tryd.prog 31 #[.slice A n c, .slice B n d] w fun e w' => e = .returned (.bool true) ∧ St w w' [] := by
  have hst := St.refl w
  obtain ⟨_, hnc, hcm⟩ := hx.len
  simp only [maxLen] at hcm
  obtain ⟨ps, hx1, hx2, hx3⟩ := hx.ex
  obtain ⟨qs, hy1, hy2, hy3⟩ := hy.ex
  have Hpl := Lib.hid (show ps.length = n by have := hx1.1; simp only [piecesL, List.length_map, Nat.mul_one] at this; exact this)
  have Hql := Lib.hid (show qs.length = n by have := hy1.1; simp only [piecesL, List.length_map, Nat.mul_one] at this; exact this)
  have HE := Lib.hid (hx3.trans hy3.symm)
  have Hx := Lib.hid hx2
  have Hy := Lib.hid hy2
  clear hx hy hx2 hy2 hx3 hy3
  go_enter Tryd.func31, Tryd.ntmps31
  go_wp2_with (first
    | fail)
  go_loopg [5] n (fun gk s5 wr => ∃ i : Nat, Hid (i + gk = n) ∧ s5 = .int .i64 (i : Int) ∧ St w wr [])
  case atStart => exact ⟨0, Lib.hid (by omega), rfl, hst⟩
  case round =>
    clear hst
    obtain ⟨i, HI, rfl, hst⟩ := hrel
    have hi := HI.out
    by_cases hin : i < n
    · clear hi
      have hip := Lib.hid (show i < ps.length by rw [Hpl.out]; exact hin)
      have hiq := Lib.hid (show i < qs.length by rw [Hql.out]; exact hin)
      have HC := Lib.hid (fun (W : World) (g off : Nat) h => piece_at (W := W) (g := g) (off := off) (i := i) (ps := ps) h hip.out)
      have HD := Lib.hid (fun (W : World) (g off : Nat) h => piece_at (W := W) (g := g) (off := off) (i := i) (ps := qs) h hiq.out)
      have HP := Hx.out (ps[i]'hip.out) (List.getElem_mem hip.out)
      have HQ := Hy.out (qs[i]'hiq.out) (List.getElem_mem hiq.out)
      have heq : (ps[i]'hip.out).2.2.2 = (qs[i]'hiq.out).2.2.2 := by
        have := congrArg (fun l => l[i]?) HE.out
        simpa [recsP, hip.out, hiq.out] using this
      generalize ps[i]'hip.out = p at HC HP heq
      generalize qs[i]'hiq.out = q at HD HQ heq
      obtain ⟨PA, pn, pc, pl⟩ := p
      obtain ⟨QA, qn, qc, ql⟩ := q
      dsimp only at HC HD HP HQ heq
      subst heq
      have HB := Lib.hid (fun w h1 h2 => sameB_any pl pl PA QA pn pc qn qc w h1 h2)
      rw [show (pl == pl) = true by simp] at HB
      go_wp2_with (first
        | fail)
      refine wp_region_idx [(0, 0), (1, 0), (2, 0), (3, 0), (4, 0), (5, 2), (6, 2), (7, 2), (8, 2), (9, 2)] (by kernel_rfl) (by kernel_rfl) ?_
      replace hst := hst.drew
      refine idx_q rfl rfl ?_; go_wp2_with fail
      refine idx_q rfl rfl ?_; go_wp2_with fail
      refine idx_q rfl rfl ?_; go_wp2_with (first | (refine L_idxS (d := some 20) rfl rfl rfl (by rfl) (by rfl) Tryd.underlying37 el_S_uint8 (by first | exact hst.old (by decide) hx1 | exact hst.old (by decide) hy1 | assumption | exact hst.sl 0 rfl | exact hst.old (by decide) (by assumption)) (by omega) (by omega) ?_; intro o20 p20 ha20 hr20; (first | subst ha20 | (obtain ⟨h1, h2⟩ := some_addr ha20; subst h1; subst h2; clear ha20) | skip)) | fail)
      refine idx_q rfl rfl ?_; go_wp2_with (first | (refine L_load1 (d := some 21) rfl rfl rfl (by rfl) Tryd.underlying49 rfl (HC.out _ _ _ hr20) ?_) | (refine L_load1 (d := some 21) rfl rfl rfl (by rfl) Tryd.underlying49 rfl (by first | assumption | exact cell_of (hst.get 0 rfl) rfl) ?_) | fail)
      refine idx_q rfl rfl ?_; go_wp2_with fail
      refine idx_g rfl ?_; go_wp2_with fail; refine ⟨by first | exact Below.refl _ _ | exact hnew.below, ?_⟩
      refine idx_g rfl ?_; go_wp2_with (first | (refine L_idxS (d := some 24) rfl rfl rfl (by rfl) (by rfl) Tryd.underlying37 el_S_uint8 (by first | exact hst.old (by decide) hx1 | exact hst.old (by decide) hy1 | assumption | exact hst.sl 0 rfl | exact hst.old (by decide) (by assumption)) (by omega) (by omega) ?_; intro o24 p24 ha24 hr24; (first | subst ha24 | (obtain ⟨h1, h2⟩ := some_addr ha24; subst h1; subst h2; clear ha24) | skip)) | fail); refine ⟨by first | exact Below.refl _ _ | exact hnew.below, ?_⟩
      refine idx_g rfl ?_; go_wp2_with (first | (refine L_load1 (d := some 25) rfl rfl rfl (by rfl) Tryd.underlying49 rfl (HD.out _ _ _ hr24) ?_) | (refine L_load1 (d := some 25) rfl rfl rfl (by rfl) Tryd.underlying49 rfl (by first | assumption | exact cell_of (hst.get 0 rfl) rfl) ?_) | fail); refine ⟨by first | exact Below.refl _ _ | exact hnew.below, ?_⟩
      refine idx_g rfl ?_; go_wp2_with (first | (refine L_load1 (d := some 21) rfl rfl rfl (by rfl) Tryd.underlying49 rfl (HC.out _ _ _ hr20) ?_) | (refine L_load1 (d := some 25) rfl rfl rfl (by rfl) Tryd.underlying49 rfl (HD.out _ _ _ hr24) ?_) | (go_at_call 32; (try clear hnew); refine (HB.out _ (hst.old (by decide) HP) (hst.old (by decide) HQ)).mono ?_; rintro e Wk1 ⟨rfl, hnew⟩; replace hst := hst.keep hnew) | fail); refine ⟨by first | exact Below.refl _ _ | exact hnew.below, ?_⟩
      refine idx_g rfl ?_; go_wp2_with fail; refine ⟨by first | exact Below.refl _ _ | exact hnew.below, ?_⟩
      refine idx_nil ?_
      clear hnew
      go_wp2_with (first
        | fail)
      go_roundg (gk - 1)
      case measure => have hi := HI.out; omega
      case rel =>
        have hi := HI.out
        exact ⟨i + 1, Lib.hid (by omega), by go_num, hst⟩
    · obtain rfl : i = n := by omega
      clear hi HI
      go_wp2_with (first
        | fail)
      go_ret
      exact ⟨rfl, hst⟩
end Go.Proofs.YtkbleigmfcleaaaDoor
