/-
  Proved here: the contract of slices.Clone at bytes. Condition: a length that a slice may have.
-/
import Derived.Test.YtaebeemnipafbaaGreatDoorLawD
import Derived.Test.YtaebeemnipafbaaGreatDoorEl
import Derived.Lib.SliceRun
set_option maxRecDepth 20000
set_option linter.unusedSimpArgs false
set_option linter.unusedVariables false
namespace Go.Proofs.YtaebeemnipafbaaGreatDoor
open Go.RowKit

set_option maxHeartbeats 1000000 in
theorem cloneB_any (l : List UInt8) (A : Option Addr) (n c : Nat) (w : World) (hx : SlR w A n c 1 (bytesL l)) (hn : n ≤ 140737488355328) :
    Calls Tryz.prog 30 #[.slice A n c] w fun e w' => ∃ O oc, e = .returned (.slice O n oc) ∧ St w w' [.row O n oc 5 1 (bytesL l)] := by
  have hst := St.refl w
  have q49 : ∀ (w : World) (a : Option Addr) (n c n' c' : Nat), (binOp .eql 22 (.slice a n c) (.slice none n' c')).run Tryz.prog w = .ok (.bool a.isNone) w := fun w a n c n' c' => Lib.run_eql_slice_nil w _ _ a n c n' c' Tryz.underlying22
  cases A with
  | none =>
    obtain rfl : n = 0 := by
      rcases Nat.eq_zero_or_pos n with h | h
      · exact h
      · obtain ⟨b, o, h1, _⟩ := hx.2.2.2 h
        cases h1
    obtain rfl : l = [] := List.eq_nil_of_length_eq_zero (by have := hx.1; rwa [length_bytesL, Nat.zero_mul] at this)
    go_enter Tryz.func30, Tryz.ntmps30
    go_wp2_with (fail)
    go_ret
    exact ⟨none, 0, rfl, hst.nilRow _ 1⟩
  | some a =>
    go_enter Tryz.func30, Tryz.ntmps30
    go_wp2_with (first | (refine L_buildS (d := some 5) rfl rfl rfl [] (bs_0 ) rfl Tryz.underlying22 el_uint8 rfl (by (simp [Value.cells]; done)) (by decide) (by decide) ?_; (try clear hnew); intro g5 W5 hnew; replace hst := hst.trans hnew; simp only [List.cons_append, List.nil_append] at hst; simp only [List.flatMap_cons, List.flatMap_nil, List.append_nil, Value.cells, List.toList_toArray] at hst) | (refine L_appendO (d := some 7) rfl rfl hst rfl (by rfl) (by rfl) Tryz.underlying22 el_uint8 rfl (by decide) (by decide) 0 rfl (by (rfl)) (by (exact hst.old (by decide) hx)) (by (exact oneCell_bytes)) (by omega) ?_; clear hst; intro A7 c7 W7 hst; simp only [List.set_cons_zero, List.set_cons_succ, List.nil_append, Nat.zero_add] at hst))
    go_ret
    exact ⟨_, _, rfl, by simpa using hst⟩
end Go.Proofs.YtaebeemnipafbaaGreatDoor
