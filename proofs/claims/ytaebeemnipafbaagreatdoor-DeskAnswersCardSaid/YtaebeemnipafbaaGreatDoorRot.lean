/-
  Proved here: the contracts of the library's rotation of 32 bits and of the program's three-fold turn. No condition beyond the counts' bounds.
-/
import Derived.Test.YtaebeemnipafbaaGreatDoorRows
import Derived.Test.YtaebeemnipafbaaGreatDoorWord
import Derived.WalkSpells
import Derived.IntWalk
import Derived.Test.YtaebeemnipafbaaGreatDoorSq
set_option linter.unusedSimpArgs false
set_option linter.unusedVariables false
set_option maxRecDepth 100000
set_option maxHeartbeats 200000000
namespace Go.Proofs.YtaebeemnipafbaaGreatDoor
open Go.RowKit
theorem rot_any (x : Wd) (s : Nat) (h1 : 1 ≤ s) (h2 : s ≤ 31) (w : World) :
  Calls Tryz.prog 144 #[wV x, .int .i64 (-(s : Int))] w fun e w' => e = .returned (wV (x.rot s)) ∧ w = w' := by
 have hc := rot_count s h1 h2
 have hsub : IntKind.u64.wrap (32 - ((32 - s : Nat) : Int)) = (s : Int) := by rw [IntKind.wrap_u64]; omega
 have ho := Lib.hid <| wd_or (x.shl (32 - s)) (x.shr s)
 have hs1 := Gg (wd_shl_int x (32 - s) (by omega))
 have hs2 := Gg (wd_shr_int x s)
 have hfin := Gg (show wV (x.rot s) = .int .u32 (((x.shl (32 - s)).or (x.shr s)).n : Int) by rw [Wd.or_comm]; rfl)
 generalize 32 - s = t at *
 unfold wV
 go_enter Tryz.func144, Tryz.ntmps144
 go_wp2
 go_ret
 refine ⟨?_, rfl⟩
 rw [hs1.out, hs2.out, ho.out, ← hfin.out]
 rfl
theorem turned_any (x : Wd) (a b c : Nat) (ha1 : 1 ≤ a) (ha2 : a ≤ 31) (hb1 : 1 ≤ b) (hb2 : b ≤ 31) (hc1 : 1 ≤ c) (hc2 : c ≤ 31) (w : World) :
  Calls Tryz.prog 145 #[wV x, .int .i64 (a : Int), .int .i64 (b : Int), .int .i64 (c : Int)] w fun e w' => e = .returned (wV (x.turned a b c)) ∧ w = w' := by
 have hx := wd_xor
 go_enter Tryz.func145, Tryz.ntmps145
 go_wp2_with fail
 with_reducible refine (rot_any x a ha1 ha2 _).mono ?_
 rintro e w' ⟨rfl, rfl⟩
 go_wp2_with fail
 with_reducible refine (rot_any x b hb1 hb2 _).mono ?_
 rintro e w' ⟨rfl, rfl⟩
 go_wp2_with fail
 with_reducible refine (rot_any x c hc1 hc2 _).mono ?_
 rintro e w' ⟨rfl, rfl⟩
 go_wp2_with fail
 go_ret
 exact ⟨rfl, rfl⟩
end Go.Proofs.YtaebeemnipafbaaGreatDoor
