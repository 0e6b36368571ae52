/-
  Proved here: the walk of the law OctetNumbers: it returns true. No condition.
-/
import Derived.Test.YtplpmfmnlgepoaaDoorRefNumB
import Derived.Test.YtplpmfmnlgepoaaDoorErrs
import Derived.Test.YtplpmfmnlgepoaaDoorSame
import Derived.Test.YtplpmfmnlgepoaaDoorLawC
namespace Go.Proofs.YtplpmfmnlgepoaaDoor
open Go.RowKit

set_option maxHeartbeats 4000000 in
set_option maxRecDepth 100000 in
theorem octetNumbers_any (w : World) (hE : Eb w) (n : Int) (hn1 : -9223372036854775808 ≤ n) (hn2 : n ≤ 9223372036854775807) (size : Int) (hs1 : -9223372036854775808 ≤ size) (hs2 : size ≤ 9223372036854775807) (b : List UInt8) (B : Option Addr) (m c : Nat) (hx : SlR w B m c 1 (bytesL b)) (_ : m * 1 ≤ 140737488351232) :
    Calls Tryd.prog 5 #[.int .i64 n, .int .i64 size, .slice B m c] w fun e w' => e = .returned (.bool true) ∧ St w w' [] := by
  have hst := St.refl w
  have HE := Lib.hid hE
  clear hE
  have hput := put_both n size hn1 hn2 hs1 hs2
  have hnum := num_both b B m c
  clear hn1 hn2 hs1 hs2
  rcases hnum with ⟨v, hn, hn'⟩ | ⟨hn, hn'⟩
  all_goals
    have H1 := Lib.hid hn
    have H2 := Lib.hid hn'
    clear hn hn'
    rcases hput with ⟨k, l, hp, hp'⟩ | ⟨hp, hp'⟩
    all_goals
      have H3 := Lib.hid hp
      have H4 := Lib.hid hp'
      clear hp hp'
  · have HS := Lib.hid (show (l == l) = true by simp)
    go_enter Tryd.func5, Tryd.ntmps5
    go_upto_region 1 with (first
      | fail)
    go_upto_region 2 with (first
      | fail)
    go_upto_region 3 with (first
      | (go_at_call 18; (try clear hnew); refine (H3.out _).mono ?_; rintro e Wk1 ⟨A19, rfl, hnew⟩; replace hst := hst.trans hnew; simp only [List.cons_append, List.nil_append] at hst)
      | fail)
    go_upto_region 6 with (first
      | fail)
    go_upto_region 7 with (first
      | (go_at_call 19; (try clear hnew); refine (H4.out _).mono ?_; rintro e Wk2 ⟨A27, rfl, hnew⟩; replace hst := hst.trans hnew; simp only [List.cons_append, List.nil_append] at hst)
      | fail)
    go_upto_region 8 with (first
      | (go_at_call 11; (try clear hnew); refine (sError_nil _).mono ?_; rintro e Wk5 ⟨rfl, hnew⟩; replace hst := hst.keep hnew)
      | fail)
    go_upto_region 9 with (first
      | (go_at_call 17; (try clear hnew); refine (sameB_any l l A27 A19 k k k k _ (hst.sl 0 rfl) (hst.sl 1 rfl)).mono ?_; rw [HS.out]; rintro e Ws ⟨rfl, hnew⟩; replace hst := hst.keep hnew)
      | fail)
    go_upto_region 11 with (first
      | fail)
    go_upto_region 12 with (first
      | fail)
    go_upto_region 13 with (first
      | (go_at_call 20; (try clear hnew); refine (H1.out _ (hst.old (by decide) hx)).mono ?_; rintro e Wk3 ⟨rfl, hnew⟩; replace hst := hst.keep hnew)
      | fail)
    go_upto_region 15 with (first
      | fail)
    go_upto_region 16 with (first
      | (go_at_call 21; (try clear hnew); refine (H2.out _ (hst.old (by decide) hx)).mono ?_; rintro e Wk4 ⟨rfl, hnew⟩; replace hst := hst.keep hnew)
      | fail)
    go_upto_region 17 with (first
      | (go_at_call 11; (try clear hnew); refine (sError_nil _).mono ?_; rintro e Wk5 ⟨rfl, hnew⟩; replace hst := hst.keep hnew)
      | fail)
    go_wp2_with (first
      | fail)
    go_ret
    exact ⟨rfl, hst.forget⟩
  · go_enter Tryd.func5, Tryd.ntmps5
    go_upto_region 1 with (first
      | fail)
    go_upto_region 2 with (first
      | fail)
    go_upto_region 3 with (first
      | (go_at_call 18; refine (H3.out _).mono ?_; rintro e W19 ⟨A19, k19, rfl, hnew⟩; replace hst := hst.keep hnew)
      | fail)
    go_upto_region 4 with (first
      | fail)
    go_upto_region 5 with (first
      | fail)
    go_upto_region 6 with (first
      | fail)
    go_upto_region 7 with (first
      | (go_at_call 19; (try clear hnew); refine (H4.out _).mono ?_; rintro e Wk6 ⟨rfl, hnew⟩; replace hst := hst.keep hnew)
      | fail)
    go_upto_region 8 with (first
      | (go_at_call 11; (try clear hnew); refine (sError_any 2 _ (HE.out.of hst)).mono ?_; rintro e Wk8 ⟨rfl, hnew⟩; replace hst := hst.keep hnew)
      | fail)
    go_upto_region 9 with (first
      | (go_at_call 17; (try clear hnew); refine (sameB_any [] [] none none 0 0 0 0 _ (SlR.nil_ _ 1) (SlR.nil_ _ 1)).mono ?_; rintro e Wk7 ⟨rfl, hnew⟩; replace hst := hst.keep hnew)
      | fail)
    go_upto_region 11 with (first
      | fail)
    go_upto_region 12 with (first
      | fail)
    go_upto_region 13 with (first
      | (go_at_call 20; (try clear hnew); refine (H1.out _ (hst.old (by decide) hx)).mono ?_; rintro e Wk9 ⟨rfl, hnew⟩; replace hst := hst.keep hnew)
      | fail)
    go_upto_region 15 with (first
      | fail)
    go_upto_region 16 with (first
      | (go_at_call 21; (try clear hnew); refine (H2.out _ (hst.old (by decide) hx)).mono ?_; rintro e Wk10 ⟨rfl, hnew⟩; replace hst := hst.keep hnew)
      | fail)
    go_upto_region 17 with (first
      | (go_at_call 11; (try clear hnew); refine (sError_nil _).mono ?_; rintro e Wk11 ⟨rfl, hnew⟩; replace hst := hst.keep hnew)
      | fail)
    go_wp2_with (first
      | fail)
    go_ret
    exact ⟨rfl, hst.forget⟩
  · have HS := Lib.hid (show (l == l) = true by simp)
    go_enter Tryd.func5, Tryd.ntmps5
    go_upto_region 1 with (first
      | fail)
    go_upto_region 2 with (first
      | fail)
    go_upto_region 3 with (first
      | (go_at_call 18; (try clear hnew); refine (H3.out _).mono ?_; rintro e Wk12 ⟨A19, rfl, hnew⟩; replace hst := hst.trans hnew; simp only [List.cons_append, List.nil_append] at hst)
      | fail)
    go_upto_region 6 with (first
      | fail)
    go_upto_region 7 with (first
      | (go_at_call 19; (try clear hnew); refine (H4.out _).mono ?_; rintro e Wk13 ⟨A27, rfl, hnew⟩; replace hst := hst.trans hnew; simp only [List.cons_append, List.nil_append] at hst)
      | fail)
    go_upto_region 8 with (first
      | (go_at_call 11; (try clear hnew); refine (sError_nil _).mono ?_; rintro e Wk14 ⟨rfl, hnew⟩; replace hst := hst.keep hnew)
      | fail)
    go_upto_region 9 with (first
      | (go_at_call 17; (try clear hnew); refine (sameB_any l l A27 A19 k k k k _ (hst.sl 0 rfl) (hst.sl 1 rfl)).mono ?_; rw [HS.out]; rintro e Ws ⟨rfl, hnew⟩; replace hst := hst.keep hnew)
      | fail)
    go_upto_region 11 with (first
      | fail)
    go_upto_region 12 with (first
      | fail)
    go_upto_region 13 with (first
      | (go_at_call 20; (try clear hnew); refine (H1.out _ (hst.old (by decide) hx)).mono ?_; rintro e Wk15 ⟨rfl, hnew⟩; replace hst := hst.keep hnew)
      | fail)
    go_upto_region 14 with (first
      | fail)
    go_upto_region 15 with (first
      | fail)
    go_upto_region 16 with (first
      | (go_at_call 21; (try clear hnew); refine (H2.out _ (hst.old (by decide) hx)).mono ?_; rintro e Wk16 ⟨rfl, hnew⟩; replace hst := hst.keep hnew)
      | fail)
    go_upto_region 17 with (first
      | (go_at_call 11; (try clear hnew); refine (sError_any 2 _ (HE.out.of hst)).mono ?_; rintro e Wk17 ⟨rfl, hnew⟩; replace hst := hst.keep hnew)
      | fail)
    go_wp2_with (first
      | fail)
    go_ret
    exact ⟨rfl, hst.forget⟩
  · go_enter Tryd.func5, Tryd.ntmps5
    go_upto_region 1 with (first
      | fail)
    go_upto_region 2 with (first
      | fail)
    go_upto_region 3 with (first
      | (go_at_call 18; refine (H3.out _).mono ?_; rintro e W19 ⟨A19, k19, rfl, hnew⟩; replace hst := hst.keep hnew)
      | fail)
    go_upto_region 4 with (first
      | fail)
    go_upto_region 5 with (first
      | fail)
    go_upto_region 6 with (first
      | fail)
    go_upto_region 7 with (first
      | (go_at_call 19; (try clear hnew); refine (H4.out _).mono ?_; rintro e Wk18 ⟨rfl, hnew⟩; replace hst := hst.keep hnew)
      | fail)
    go_upto_region 8 with (first
      | (go_at_call 11; (try clear hnew); refine (sError_any 2 _ (HE.out.of hst)).mono ?_; rintro e Wk22 ⟨rfl, hnew⟩; replace hst := hst.keep hnew)
      | fail)
    go_upto_region 9 with (first
      | (go_at_call 17; (try clear hnew); refine (sameB_any [] [] none none 0 0 0 0 _ (SlR.nil_ _ 1) (SlR.nil_ _ 1)).mono ?_; rintro e Wk19 ⟨rfl, hnew⟩; replace hst := hst.keep hnew)
      | fail)
    go_upto_region 11 with (first
      | fail)
    go_upto_region 12 with (first
      | fail)
    go_upto_region 13 with (first
      | (go_at_call 20; (try clear hnew); refine (H1.out _ (hst.old (by decide) hx)).mono ?_; rintro e Wk20 ⟨rfl, hnew⟩; replace hst := hst.keep hnew)
      | fail)
    go_upto_region 14 with (first
      | fail)
    go_upto_region 15 with (first
      | fail)
    go_upto_region 16 with (first
      | (go_at_call 21; (try clear hnew); refine (H2.out _ (hst.old (by decide) hx)).mono ?_; rintro e Wk21 ⟨rfl, hnew⟩; replace hst := hst.keep hnew)
      | fail)
    go_upto_region 17 with (first
      | (go_at_call 11; (try clear hnew); refine (sError_any 2 _ (HE.out.of hst)).mono ?_; rintro e Wk22 ⟨rfl, hnew⟩; replace hst := hst.keep hnew)
      | fail)
    go_wp2_with (first
      | fail)
    go_ret
    exact ⟨rfl, hst.forget⟩
end Go.Proofs.YtplpmfmnlgepoaaDoor
