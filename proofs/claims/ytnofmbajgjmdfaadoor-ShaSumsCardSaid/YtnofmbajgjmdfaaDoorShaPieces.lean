/-
  Proved here: the walk of the law ShaPieces: it returns true. Condition: the pieces have at most 1048576 bytes together.
-/
import Derived.Test.YtnofmbajgjmdfaaDoorOpenS
import Derived.Test.YtnofmbajgjmdfaaDoorLawD
import Derived.Test.YtnofmbajgjmdfaaDoorFacts
namespace Go.Proofs.YtnofmbajgjmdfaaDoor
open Go.RowKit

set_option maxHeartbeats 1000000 in
set_option maxRecDepth 100000 in
theorem known_any (w : World) (hT : Tb w) : Calls Tryd.prog 12 #[] w fun e w' => e = .returned (.bool true) ∧ St w w' [] := by
  have hst := St.refl w
  have HT := Lib.hid hT
  clear hT
  go_enter Tryd.func12, Tryd.ntmps12
  go_wp2_with (first
    | (refine L_convB (d := some 3) rfl rfl hst rfl (ev_tmp rfl) Tryd.underlying22 Tryd.underlying5 0 rfl (by decide) ?_; clear hst; intro gq ob W3 hst hs3; simp only [List.set_cons_zero] at hst)
    | (go_at_call 13; (try clear hnew); refine (ssum_any [97, 98, 99] _ _ _ _ (HT.out.of hst) hs3 (by decide)).mono ?_; rintro e W4 ⟨rfl, hnew⟩; replace hst := hst.keep hnew)
    | (refine L_buildS (d := some 2) rfl rfl rfl [_, _, _] (bs_3 ev_const ev_const ev_const) rfl Tryd.underlying22 el_uint8 rfl (by first | (simp [Value.cells]; done) | (simp [Value.cells, Dig.size]; done)) (by decide) (by decide) ?_; (try clear hnew); intro g2 W2 hnew; replace hst := hst.trans hnew; simp only [List.cons_append, List.nil_append] at hst; simp only [List.flatMap_cons, List.flatMap_nil, List.append_nil, Value.cells, List.toList_toArray] at hst)
    | (refine L_allocA (d := some 1) rfl rfl rfl el_api_Digest ?_; (try clear hnew); intro g1 W1 hnew; replace hst := hst.trans hnew; simp only [List.cons_append, List.nil_append] at hst)
    | (refine wpl_at (.store 25 (.tmp 1) (.tmp 4)) rfl ?_; first | (refine L_storeA rfl rfl hst rfl (by rfl) (ev_tmp rfl) (by first | rfl | exact Dig.one _ | (simp; done)) el_api_Digest (by first | rfl | exact Dig.size _ | (simp; done)) 0 rfl (by first | rfl | exact Dig.size _ | (simp; done)) ?_; clear hst; intro WS4 hst; simp only [List.set_cons_zero, List.set_cons_succ] at hst) | (refine L_storeA rfl rfl hst rfl (by rfl) (ev_tmp rfl) (by first | rfl | exact Dig.one _ | (simp; done)) el_api_Digest (by first | rfl | exact Dig.size _ | (simp; done)) 1 rfl (by first | rfl | exact Dig.size _ | (simp; done)) ?_; clear hst; intro WS4 hst; simp only [List.set_cons_zero, List.set_cons_succ] at hst) | (refine L_storeM rfl rfl hst rfl (by rfl) (ev_tmp rfl) (by first | rfl | exact Dig.one _ | (simp; done)) el_api_Digest (by first | rfl | exact Dig.size _ | (simp; done)) 0 rfl (by first | exact of_decide_eq_true rfl | (simp; done)) ?_; clear hst; intro WS4 hst; simp only [List.set_cons_zero, List.set_cons_succ] at hst)  | (refine L_storeM rfl rfl hst rfl (by rfl) (ev_tmp rfl) (by first | rfl | exact Dig.one _ | (simp; done)) el_api_Digest (by first | rfl | exact Dig.size _ | (simp; done)) 1 rfl (by first | exact of_decide_eq_true rfl | (simp; done)) ?_; clear hst; intro WS4 hst; simp only [List.set_cons_zero, List.set_cons_succ] at hst))
    | (refine L_load1 (d := some 6) rfl rfl rfl (by rfl) Tryd.underlying5 rfl (by first | assumption | exact cell_of (hst.get 0 rfl) (abc_at _ _ rfl (by decide)) | exact cell_of (hst.get 0 rfl) rfl | exact cell_of (hst.get 1 rfl) (abc_at _ _ rfl (by decide)) | exact cell_of (hst.get 1 rfl) rfl) ?_)
    | (refine L_load1 (d := some 10) rfl rfl rfl (by rfl) Tryd.underlying5 rfl (by first | assumption | exact cell_of (hst.get 0 rfl) (abc_at _ _ rfl (by decide)) | exact cell_of (hst.get 0 rfl) rfl | exact cell_of (hst.get 1 rfl) (abc_at _ _ rfl (by decide)) | exact cell_of (hst.get 1 rfl) rfl) ?_)
    | (refine L_load1 (d := some 15) rfl rfl rfl (by rfl) Tryd.underlying5 rfl (by first | assumption | exact cell_of (hst.get 0 rfl) (abc_at _ _ rfl (by decide)) | exact cell_of (hst.get 0 rfl) rfl | exact cell_of (hst.get 1 rfl) (abc_at _ _ rfl (by decide)) | exact cell_of (hst.get 1 rfl) rfl) ?_)
    | fail)
  go_ret
  exact ⟨rfl, hst.forget⟩

theorem dec_self (d : Dig) : decide (d = d) = true := by simp
/-- the first pieces, in a row -/
def allP (f : Nat → Piece) (i : Nat) : List UInt8 := (List.range i).flatMap fun j => (f j).2.2.2
theorem allP_succ (f : Nat → Piece) (i : Nat) : allP f (i + 1) = allP f i ++ (f i).2.2.2 := by
  simp [allP, List.range_succ]
theorem piece_cell {W : World} {g off i n : Nat} {f : Nat → Piece} (h : W.rangeAt g (off + (i : Int).toNat * 1) ((((List.range n).map fun i => (f i).v).drop ((i : Int).toNat * 1)).take 1)) (hi : i < n) : W.cell? ⟨g, off + (i : Int).toNat * 1, none⟩ = some (.slice (f i).1 (f i).2.1 (f i).2.2.1) := by
  have := h 0 (f i).v (by simp [hi])
  simpa [Piece.v] using this

set_option maxHeartbeats 2000000 in
set_option maxRecDepth 100000 in
theorem shaPieces_any (w : World) (hT : Tb w) (A : Option Addr) (n c : Nat) (f : Nat → Piece) (hs : SlR w A n c 1 ((List.range n).map fun i => (f i).v)) (hp : ∀ i, i < n → SlR w (f i).1 (f i).2.1 (f i).2.2.1 1 (bytesL (f i).2.2.2)) (hb : ∀ m, m ≤ n → (allP f m).length ≤ 1048576) :
    Calls Tryd.prog 4 #[.slice A n c] w fun e w' => e = .returned (.bool true) ∧ St w w' [] := by
  have hst := St.refl w
  have HT := Lib.hid hT
  have Hp := Lib.hid hp
  have Hb := Lib.hid hb
  have hcm := hs.2.2.1
  have hnc := hs.2.1
  simp only [maxLen] at hcm
  clear hT hp hb
  go_enter Tryd.func4, Tryd.ntmps4
  go_wp2_with (first
    | (go_at_call 12; refine (known_any _ (HT.out.of hst)).mono ?_; rintro e W7 ⟨rfl, hnew⟩; replace hst := hst.keep hnew; clear hnew)
    | (go_at_call 15; refine (new_hs _).mono ?_; rintro e W8 ⟨g8, rfl, hnew⟩; replace hst := hst.trans hnew; clear hnew)
    | fail)
  have hst : St w W8 (Hs g8 (allP f 0) none 0 0 ++ [.row none 0 0 5 1 (bytesL (allP f 0))]) := (hst.nilRow 5 1).pick [1, 2, 0] (by decide)
  go_loopg [5, 6] n (fun gk s5 s6 wr => ∃ (i : Nat) (O R : Option Addr) (ol oc rn rc : Nat), Hid (i + gk = n) ∧ Hid ((allP f i).length = ol) ∧ ol ≤ 1048576 ∧ s5 = .slice O ol oc ∧ s6 = .int .i64 (i : Int) ∧ St w wr (Hs g8 (allP f i) R rn rc ++ [.row O ol oc 5 1 (bytesL (allP f i))]))
  case atStart => exact ⟨0, none, none, 0, 0, 0, 0, Lib.hid (by omega), Lib.hid rfl, by omega, rfl, rfl, hst⟩
  case round =>
    clear hst
    obtain ⟨i, O, R, ol, oc, rn, rc, HI, HO, hol, rfl, rfl, hst⟩ := hrel
    have hi := HI.out
    by_cases hin : i < n
    · clear hi
      have HC := Lib.hid (fun (W : World) (g off : Nat) h => piece_cell (W := W) (g := g) (off := off) (i := i) (n := n) (f := f) h hin)
      have HP := Hp.out i hin
      have HA := Lib.hid (allP_succ f i)
      have hbn := Hb.out (i + 1) (by omega)
      have hpl := HP.1
      rw [HA.out, List.length_append, HO.out] at hbn
      generalize f i = q at HC HP HA hbn hpl
      obtain ⟨PA, pn, pc, pl⟩ := q
      dsimp only at HC HP HA hbn hpl
      simp only [length_bytesL, Nat.mul_one] at hbn hpl
      generalize allP f i = al at *
      have hpn : pn ≤ 1048576 := by omega
      have hop : ol + pn ≤ 1048576 := by omega
      have Hpl := Lib.hid hpl
      clear hpl hbn
      go_wp2_with (first
        | (refine L_load1 (d := some 25) rfl rfl rfl (by rfl) Tryd.underlying22 rfl (HC.out _ _ _ hr24) ?_)
        | (refine L_load1 (d := some 31) rfl rfl rfl (by rfl) Tryd.underlying22 rfl (HC.out _ _ _ hr30) ?_)
        | (go_at_call 16; refine (write_any al pl g8 _ _ _ PA pn pc w _ _ HT.out hst (Src.old (by decide) HP _) (by rw [HO.out, Hpl.out]; omega) (by omega)).mono ?_; rintro e W26 ⟨rfl, A26, n26, c26, hst'⟩; clear hst; have hst := hst'; clear hst'; simp only [Hs, List.nil_append, List.cons_append] at hst)
        | (go_at_call 17; refine (hsum_any (al ++ pl) g8 _ _ _ w _ _ HT.out hst (by rw [List.length_append, HO.out, Hpl.out]; omega)).mono ?_; rintro e W34 ⟨rfl, hst'⟩; clear hst; have hst := hst'; clear hst'; simp only [Hs, List.nil_append, List.cons_append] at hst)
        | (go_at_call 13; (try clear hnew); refine (ssum_any (al ++ pl) _ _ _ _ (HT.out.of hst) (by rw [bytesL_append]; exact hst.sl 2 rfl) (by omega)).mono ?_; rintro e W36 ⟨rfl, hnew⟩; replace hst := hst.keep hnew)
        | (refine L_idxS (d := some 24) rfl rfl rfl (by rfl) (by rfl) Tryd.underlying28 el_S_uint8 (by first | exact hst.old (by decide) hs | exact hst.old (by decide) HP | assumption | exact hst.sl 0 rfl | exact hst.sl 1 rfl | exact hst.sl 2 rfl | exact hst.sl 3 rfl | exact hst.old (by decide) (by assumption)) (by omega) (by omega) ?_; intro o24 p24 ha24 hr24; (first | subst ha24 | (obtain ⟨h1, h2⟩ := some_addr ha24; subst h1; subst h2; clear ha24) | skip))
        | (refine L_load1 (d := some 25) rfl rfl rfl (by rfl) Tryd.underlying22 rfl (by first | assumption | exact cell_of (hst.get 0 rfl) rfl | exact cell_of (hst.get 1 rfl) rfl | exact cell_of (hst.get 2 rfl) rfl | exact cell_of (hst.get 3 rfl) rfl) ?_)
        | (refine L_idxS (d := some 30) rfl rfl rfl (by rfl) (by rfl) Tryd.underlying28 el_S_uint8 (by first | exact hst.old (by decide) hs | exact hst.old (by decide) HP | assumption | exact hst.sl 0 rfl | exact hst.sl 1 rfl | exact hst.sl 2 rfl | exact hst.sl 3 rfl | exact hst.old (by decide) (by assumption)) (by omega) (by omega) ?_; intro o30 p30 ha30 hr30; (first | subst ha30 | (obtain ⟨h1, h2⟩ := some_addr ha30; subst h1; subst h2; clear ha30) | skip))
        | (refine L_load1 (d := some 31) rfl rfl rfl (by rfl) Tryd.underlying22 rfl (by first | assumption | exact cell_of (hst.get 0 rfl) rfl | exact cell_of (hst.get 1 rfl) rfl | exact cell_of (hst.get 2 rfl) rfl | exact cell_of (hst.get 3 rfl) rfl) ?_)
        | (refine L_appendO (d := some 32) rfl rfl hst rfl (by rfl) (by rfl) Tryd.underlying22 el_uint8 rfl (by decide) (by decide) 0 rfl (by first | rfl | omega) (by first | exact hst.old (by decide) hs | exact hst.old (by decide) HP | exact hst.sl 0 rfl | exact hst.sl 1 rfl | exact hst.sl 2 rfl | exact hst.sl 3 rfl | assumption | exact hst.old (by decide) (by assumption)) (by first | exact oneCell_bytes | (simp [Value.oneCell']; done)) (by omega) ?_; clear hst; intro A32 c32 W32 hst; simp only [List.set_cons_zero, List.set_cons_succ, List.nil_append, Nat.zero_add] at hst)
        | (refine L_appendO (d := some 32) rfl rfl hst rfl (by rfl) (by rfl) Tryd.underlying22 el_uint8 rfl (by decide) (by decide) 1 rfl (by first | rfl | omega) (by first | exact hst.old (by decide) hs | exact hst.old (by decide) HP | exact hst.sl 0 rfl | exact hst.sl 1 rfl | exact hst.sl 2 rfl | exact hst.sl 3 rfl | assumption | exact hst.old (by decide) (by assumption)) (by first | exact oneCell_bytes | (simp [Value.oneCell']; done)) (by omega) ?_; clear hst; intro A32 c32 W32 hst; simp only [List.set_cons_zero, List.set_cons_succ, List.nil_append, Nat.zero_add] at hst)
        | (refine L_appendO (d := some 32) rfl rfl hst rfl (by rfl) (by rfl) Tryd.underlying22 el_uint8 rfl (by decide) (by decide) 2 rfl (by first | rfl | omega) (by first | exact hst.old (by decide) hs | exact hst.old (by decide) HP | exact hst.sl 0 rfl | exact hst.sl 1 rfl | exact hst.sl 2 rfl | exact hst.sl 3 rfl | assumption | exact hst.old (by decide) (by assumption)) (by first | exact oneCell_bytes | (simp [Value.oneCell']; done)) (by omega) ?_; clear hst; intro A32 c32 W32 hst; simp only [List.set_cons_zero, List.set_cons_succ, List.nil_append, Nat.zero_add] at hst)
        | (refine L_appendO (d := some 32) rfl rfl hst rfl (by rfl) (by rfl) Tryd.underlying22 el_uint8 rfl (by decide) (by decide) 3 rfl (by first | rfl | omega) (by first | exact hst.old (by decide) hs | exact hst.old (by decide) HP | exact hst.sl 0 rfl | exact hst.sl 1 rfl | exact hst.sl 2 rfl | exact hst.sl 3 rfl | assumption | exact hst.old (by decide) (by assumption)) (by first | exact oneCell_bytes | (simp [Value.oneCell']; done)) (by omega) ?_; clear hst; intro A32 c32 W32 hst; simp only [List.set_cons_zero, List.set_cons_succ, List.nil_append, Nat.zero_add] at hst)
        | (refine L_appendF (d := some 32) rfl rfl rfl (by rfl) (by rfl) Tryd.underlying22 el_uint8 rfl (by decide) (by assumption) (by first | assumption | exact hst.old (by decide) hs | exact hst.old (by decide) HP | exact hst.sl 0 rfl | exact hst.sl 1 rfl | exact hst.sl 2 rfl | exact hst.sl 3 rfl | assumption | exact hst.old (by decide) (by assumption)) (by omega) (by omega) (by omega) ?_; (try clear hnew); intro A32 c32 W32 hnew; replace hst := hst.trans hnew; simp only [List.cons_append, List.nil_append] at hst)
        | (refine L_neD (d := some 37) rfl rfl rfl Tryd.underlying25 Tryd.underlying5 el_uint8 eqG_D (ev_tmp rfl) (ev_tmp rfl) ?_; (try rw [dec_self]))
        | fail)
      go_roundg (gk - 1)
      case measure => have hi := HI.out; omega
      case rel =>
        have hi := HI.out
        refine ⟨i + 1, A32, A26, ol + pn, c32, n26, c26, Lib.hid (by omega), Lib.hid (by rw [HA.out, List.length_append, HO.out, Hpl.out]), hop, rfl, by go_num, ?_⟩
        rw [HA.out, bytesL_append]
        exact hst
    · obtain rfl : i = n := by omega
      clear hi HI
      generalize allP f i = al at *
      go_wp2_with (first
        | (go_at_call 17; refine (hsum_any al g8 _ _ _ w _ _ HT.out hst (by rw [HO.out]; omega)).mono ?_; rintro e W34 ⟨rfl, hst'⟩; clear hst; have hst := hst'; clear hst'; simp only [Hs, List.nil_append, List.cons_append] at hst)
        | (go_at_call 13; (try clear hnew); refine (ssum_any al _ _ _ _ (HT.out.of hst) (hst.sl 2 rfl) (by omega)).mono ?_; rintro e W36 ⟨rfl, hnew⟩; replace hst := hst.keep hnew)
        | (refine L_eqD (d := some 42) rfl rfl rfl Tryd.underlying25 Tryd.underlying5 el_uint8 eqG_D (ev_tmp rfl) (ev_tmp rfl) ?_; (try rw [dec_self]))
        | fail)
      go_ret
      exact ⟨rfl, hst.forget⟩
end Go.Proofs.YtnofmbajgjmdfaaDoor
