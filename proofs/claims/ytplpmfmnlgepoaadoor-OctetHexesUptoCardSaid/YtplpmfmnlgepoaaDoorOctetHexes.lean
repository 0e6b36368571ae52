/-
  Proved here: the walk of the law OctetHexes: it returns true. Condition: no more bytes than a slice of their digits may have.
-/
import Derived.Test.YtplpmfmnlgepoaaDoorRefHex
import Derived.Test.YtplpmfmnlgepoaaDoorErrs
import Derived.Test.YtplpmfmnlgepoaaDoorSame
set_option maxRecDepth 20000
namespace Go.Proofs.YtplpmfmnlgepoaaDoor
open Go.RowKit

/-- the first pair that is none, of m -/
theorem first_bad (l : List UInt8) : ∀ m, ∃ t, t ≤ m ∧ (∀ j, j < t → pairOk l j) ∧ (t < m → ¬ pairOk l t)
  | 0 => ⟨0, by omega, fun j hj => by omega, fun h => by omega⟩
  | m + 1 => by
    obtain ⟨t, h1, h2, h3⟩ := first_bad l m
    by_cases ht : t < m
    · exact ⟨t, by omega, h2, fun _ => h3 ht⟩
    · obtain rfl : t = m := by omega
      by_cases hp : pairOk l t
      · exact ⟨t + 1, by omega, fun j hj => by
          by_cases hjt : j = t
          · subst hjt; exact hp
          · exact h2 j (by omega), fun h => by omega⟩
      · exact ⟨t, by omega, h2, fun _ => hp⟩
/-- both sides say the same of a text: these bytes, or none -/
theorem unhex_both (s : ByteArray) (hs : s.size ≤ 140737488355000) :
    (∃ (k : Nat) (l : List UInt8), (∀ w, Calls Tryd.prog 24 #[.string s] w fun e w' => ∃ A c, e = .returned (.tuple #[.slice A k c, .bool true]) ∧ St w w' [.row A k c 5 1 (bytesL l)]) ∧
      (∀ w, Calls Tryd.prog 25 #[.string s] w fun e w' => ∃ A c, e = .returned (.tuple #[.slice A k c, .nilIface]) ∧ St w w' [.row A k c 5 1 (bytesL l)])) ∨
    ((∀ w, Calls Tryd.prog 24 #[.string s] w fun e w' => ∃ A k c, e = .returned (.tuple #[.slice A k c, .bool false]) ∧ St w w' []) ∧
      (∀ w, Calls Tryd.prog 25 #[.string s] w fun e w' => e = .returned (.tuple #[.slice none 0 0, errV 1]) ∧ St w w' [])) := by
  obtain ⟨t, h1, h2, h3⟩ := first_bad s.data.toList (s.size / 2)
  by_cases hodd : s.size % 2 = 1
  · refine .inr ⟨fun w => (runhex_any s (s.size / 2) t false w hs rfl (by rw [beq_eq_false_iff_ne]; omega) h1 h2 h3).mono ?_, fun w => unhex_odd s w hs hodd⟩
    rintro e w' (⟨_, A, c, rfl, h⟩ | ⟨_, rfl, h⟩)
    · exact ⟨A, _, c, rfl, h.forget⟩
    · exact ⟨_, _, _, rfl, h⟩
  · have hm : s.size = 2 * (s.size / 2) := by omega
    by_cases ht : t < s.size / 2
    · refine .inr ⟨fun w => (runhex_any s (s.size / 2) t true w hs rfl (by rw [beq_iff_eq]; omega) h1 h2 h3).mono ?_, fun w => (unhex_any s (s.size / 2) t w hs hm h1 h2 h3).mono ?_⟩
      · rintro e w' (⟨h, _⟩ | ⟨_, rfl, h⟩)
        · omega
        · exact ⟨_, _, _, rfl, h⟩
      · rintro e w' (⟨h, _⟩ | ⟨_, h⟩)
        · omega
        · exact h
    · obtain rfl : t = s.size / 2 := by omega
      refine .inl ⟨s.size / 2, decL s.data.toList (s.size / 2), fun w => (runhex_any s (s.size / 2) _ true w hs rfl (by rw [beq_iff_eq]; omega) h1 h2 h3).mono ?_, fun w => (unhex_any s (s.size / 2) _ w hs hm h1 h2 h3).mono ?_⟩
      · rintro e w' (⟨_, h⟩ | ⟨h, _⟩)
        · exact h
        · omega
      · rintro e w' (⟨_, h⟩ | ⟨h, _⟩)
        · exact h
        · omega

set_option maxHeartbeats 4000000 in
set_option maxRecDepth 100000 in
theorem octetHexes_any (w : World) (hE : Eb w) (b : List UInt8) (A : Option Addr) (n c : Nat) (hx : SlR w A n c 1 (bytesL b)) (hn : n ≤ 1048576) (s : ByteArray) (hs : s.size ≤ 1048576) :
    Calls Tryd.prog 6 #[.slice A n c, .string s] w fun e w' => e = .returned (.bool true) ∧ St w w' [] := by
  have hst := St.refl w
  have HE := Lib.hid hE
  clear hE
  have HF := Lib.hid (show (⟨(hexL [171]).toArray⟩ : ByteArray) = ⟨#[97, 98]⟩ by rfl)
  have H1 := Lib.hid (fun w h => hex_any b A n c w h (by omega))
  have H2 := Lib.hid (fun w h => rhex_any b A n c w h (by omega))
  generalize (⟨(hexL b).toArray⟩ : ByteArray) = u at H1 H2
  rcases unhex_both s (by omega) with ⟨k, l, h3, h4⟩ | ⟨h3, h4⟩
  all_goals
    have H3 := Lib.hid h3
    have H4 := Lib.hid h4
    clear h3 h4
  · have HS := Lib.hid (show (l == l) = true by simp)
    go_enter Tryd.func6, Tryd.ntmps6
    go_upto_region 1 with (first
      | fail)
    go_upto_region 2 with (first
      | (go_at_call 22; (try clear hnew); refine (hex_any [171] _ _ _ _ (hst.sl 0 rfl) (by decide)).mono ?_; rw [HF.out]; rintro e Wh ⟨rfl, hnew⟩; replace hst := hst.keep hnew)
      | (refine L_buildS (d := some 13) rfl rfl rfl [_] (bs_1 ev_const) rfl Tryd.underlying33 el_uint8 rfl (by first | (simp [Value.cells]; done) | (simp [Value.cells, Dig.size]; done)) (by decide) (by decide) ?_; (try clear hnew); intro g13 W13 hnew; replace hst := hst.trans hnew; simp only [List.cons_append, List.nil_append] at hst; simp only [List.flatMap_cons, List.flatMap_nil, List.append_nil, Value.cells, List.toList_toArray] at hst)
      | fail)
    go_upto_region 4 with (first
      | (go_at_call 22; (try clear hnew); refine (H1.out _ (hst.old (by decide) hx)).mono ?_; rintro e Wk1 ⟨rfl, hnew⟩; replace hst := hst.keep hnew)
      | (go_at_call 23; (try clear hnew); refine (H2.out _ (hst.old (by decide) hx)).mono ?_; rintro e Wk2 ⟨rfl, hnew⟩; replace hst := hst.keep hnew)
      | fail)
    go_upto_region 5 with (first
      | fail)
    go_upto_region 6 with (first
      | (go_at_call 24; (try clear hnew); refine (H3.out _).mono ?_; rintro e Wk3 ⟨A26, c26, rfl, hnew⟩; replace hst := hst.trans hnew; simp only [List.cons_append, List.nil_append] at hst)
      | fail)
    go_upto_region 9 with (first
      | fail)
    go_upto_region 10 with (first
      | (go_at_call 25; (try clear hnew); refine (H4.out _).mono ?_; rintro e Wk4 ⟨A33, c33, rfl, hnew⟩; replace hst := hst.trans hnew; simp only [List.cons_append, List.nil_append] at hst)
      | fail)
    go_upto_region 11 with (first
      | (go_at_call 11; (try clear hnew); refine (sError_nil _).mono ?_; rintro e Wk5 ⟨rfl, hnew⟩; replace hst := hst.keep hnew)
      | fail)
    go_upto_region 12 with (first
      | (go_at_call 17; (try clear hnew); refine (sameB_any l l A33 A26 k c33 k c26 _ (hst.sl 0 rfl) (hst.sl 1 rfl)).mono ?_; rw [HS.out]; rintro e Ws ⟨rfl, hnew⟩; replace hst := hst.keep hnew)
      | fail)
    go_wp2_with (first
      | fail)
    go_ret
    exact ⟨rfl, hst.forget⟩
  · go_enter Tryd.func6, Tryd.ntmps6
    go_upto_region 1 with (first
      | fail)
    go_upto_region 2 with (first
      | (go_at_call 22; (try clear hnew); refine (hex_any [171] _ _ _ _ (hst.sl 0 rfl) (by decide)).mono ?_; rw [HF.out]; rintro e Wh ⟨rfl, hnew⟩; replace hst := hst.keep hnew)
      | (refine L_buildS (d := some 13) rfl rfl rfl [_] (bs_1 ev_const) rfl Tryd.underlying33 el_uint8 rfl (by first | (simp [Value.cells]; done) | (simp [Value.cells, Dig.size]; done)) (by decide) (by decide) ?_; (try clear hnew); intro g13 W13 hnew; replace hst := hst.trans hnew; simp only [List.cons_append, List.nil_append] at hst; simp only [List.flatMap_cons, List.flatMap_nil, List.append_nil, Value.cells, List.toList_toArray] at hst)
      | fail)
    go_upto_region 4 with (first
      | (go_at_call 22; (try clear hnew); refine (H1.out _ (hst.old (by decide) hx)).mono ?_; rintro e Wk6 ⟨rfl, hnew⟩; replace hst := hst.keep hnew)
      | (go_at_call 23; (try clear hnew); refine (H2.out _ (hst.old (by decide) hx)).mono ?_; rintro e Wk7 ⟨rfl, hnew⟩; replace hst := hst.keep hnew)
      | fail)
    go_upto_region 5 with (first
      | fail)
    go_upto_region 6 with (first
      | (go_at_call 24; (try clear hnew); refine (H3.out _).mono ?_; rintro e W26 ⟨A26, k26, c26, rfl, hnew⟩; replace hst := hst.keep hnew)
      | fail)
    go_upto_region 7 with (first
      | fail)
    go_upto_region 8 with (first
      | fail)
    go_upto_region 9 with (first
      | fail)
    go_upto_region 10 with (first
      | (go_at_call 25; (try clear hnew); refine (H4.out _).mono ?_; rintro e Wk8 ⟨rfl, hnew⟩; replace hst := hst.keep hnew)
      | fail)
    go_upto_region 11 with (first
      | (go_at_call 11; (try clear hnew); refine (sError_any 1 _ (HE.out.of hst)).mono ?_; rintro e Wk9 ⟨rfl, hnew⟩; replace hst := hst.keep hnew)
      | fail)
    go_upto_region 12 with (first
      | (go_at_call 17; (try clear hnew); refine (sameB_any [] [] none none 0 0 0 0 _ (SlR.nil_ _ 1) (SlR.nil_ _ 1)).mono ?_; rintro e Wk10 ⟨rfl, hnew⟩; replace hst := hst.keep hnew)
      | fail)
    go_wp2_with (first
      | fail)
    go_ret
    exact ⟨rfl, hst.forget⟩
end Go.Proofs.YtplpmfmnlgepoaaDoor
