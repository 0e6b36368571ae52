/-
  Proved here: the contracts of the beginning of a digest: the first state, a new hasher. No condition.
-/
import Derived.Test.YtaebeemnipafbaaGreatDoorBlock
import Derived.Test.YtaebeemnipafbaaGreatDoorSq
set_option linter.unusedSimpArgs false
set_option linter.unusedVariables false
set_option maxRecDepth 100000
set_option maxHeartbeats 200000000
namespace Go.Proofs.YtaebeemnipafbaaGreatDoor
open Go.RowKit
theorem begin_any (w : World) : Calls Tryz.prog 127 #[] w fun e w' => e = .returned (.agg begS.arr) ∧ St w w' [] := by
 have Ga := St.refl w
 go_enter Tryz.func127, Tryz.ntmps127
 go_wp2_with (first | (refine GB (.alloc 198) rfl ?_; refine Pd rfl Ga 198 rfl elS ?_; clear Ga; intro gr W1 Ga) | (refine wpl_build8 rfl 198 _ _ _ _ _ _ _ _ rfl uz198 el32 elS8 (by rfl) (by rfl) (by rfl) (by rfl) (by rfl) (by rfl) (by rfl) (by rfl) rfl rfl rfl rfl rfl rfl rfl rfl ?_) | (refine GB (.store 198 (.tmp 0) (.tmp 1)) rfl ?_; refine Pe rfl Ga 198 (.tmp 0) (.tmp 1) rfl (by rfl) (cells := begS.arr) (by rfl) (S8.one _) (by rw [elS.size, S8.size]) 0 rfl (by rw [zeros8, S8.size]) ?_; clear Ga; intro W2 Ga))
 exact bodyPost_ret (results_cell_row rfl _ _ gr 198 _ (0, 0) _ (by rfl) (Ga.get 0 rfl) uz198 rfl (by rw [elS.size, S8.size])) rfl ⟨rfl, Ga.forget⟩
def P3 (s : S8) (A : Option Addr) (n c : Nat) (m : Int) : Array Value :=
 #[wV s.a, wV s.b, wV s.c, wV s.d, wV s.e, wV s.f, wV s.g, wV s.h, .slice A n c, .int .i64 m]
theorem buildH (W : World) : (Instr.build 201 #[(0, .agg begS.arr)]).run Tryz.prog W = .ok (.agg (P3 begS none 0 0 0)) W := by kernel_rfl
theorem exec_build1 {P : Program} {o : Oper} {a : Act} {W : World} (T : TypeId) (k : Nat) (x : Operand) (ho : o.op = .build T #[(k, x)]) {v r : Value} (hx : a.eval x = v) (hb : (Instr.build T #[(k, v)]).run P W = .ok r W) :
  (execOp a.eval o).run P W = .ok (.value r) W := by
 unfold execOp
 simp only [ho]
 simp [hx, hb]
theorem new_any (w : World) : Calls Tryz.prog 100 #[] w fun e w' => ∃ g, e = .returned (.pointer (some ⟨g, 0, none⟩)) ∧ St w w' [.blk g 201 (P3 begS none 0 0 0)] := by
 have Ga := St.refl w
 go_enter Tryz.func100, Tryz.ntmps100
 go_wp2_with (first | (go_at_call 127; refine (begin_any _).mono ?_; rintro e w' ⟨rfl, hst'⟩; replace Ga := Ga.keep hst'; clear hst') | (refine GB (.build 201 #[(0, .tmp 1)]) rfl ?_; refine wpl_run rfl (exec_build1 201 0 (.tmp 1) rfl (v := .agg begS.arr) (by rfl) (buildH _)) ?_) | (refine GB (.box 201 (.tmp 2)) rfl ?_; refine wpl_boxAgg rfl Ga 201 (.tmp 2) rfl (cs := P3 begS none 0 0 0) (by rfl) ?_; clear Ga; intro g W1 Ga))
 go_ret
 exact ⟨g, rfl, Ga⟩
end Go.Proofs.YtaebeemnipafbaaGreatDoor
