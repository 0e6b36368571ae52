/-
  Proved here: how the arguments of a row are opened: numbers, digests, slices of bytes, of digests, of slices of bytes; the table of the digest. No condition on any program.
-/
import Derived.Test.YtaebeemnipafbaaGreatDoorOpen
import Derived.Test.YtaebeemnipafbaaGreatDoorSha
import Derived.Deep.Slices
import Derived.SizedLaws
import Derived.Lib.LaidTab
import Derived.LaidLaws
import Derived.Test.YtaebeemnipafbaaGreatDoorOpenA
import Derived.Test.YtaebeemnipafbaaGreatDoorSq
set_option linter.unusedSimpArgs false
set_option linter.unusedVariables false
set_option maxRecDepth 100000
set_option maxHeartbeats 200000000
namespace Go.Proofs.YtaebeemnipafbaaGreatDoor
open Go.ChangeShapes Go.WideShapes Go.ChangeAt Go.RowKit Go.Deep
section
variable {P : Program} {H : Type} {enc : TypeId × Value → H} {W : World} {base : Nat} {spare : Nat → Bool} {held : Bool}
end
def tableZ : List Int := Pw.map fun (n : Nat) => (n : Int)
theorem cellsR : Tryz.prog.cellsOf 225 = 64 := by kernel_rfl
theorem cells32 : Tryz.prog.cellsOf 196 = 1 := by kernel_rfl
theorem gTab : Tryz.prog.globalNamed "oathbook/sha.rounds" = some 1 := by kernel_rfl
theorem gTabType : (Tryz.prog.globals[1]?).map (·.type) = some 225 := by kernel_rfl
theorem tb_of {W : World} {rest : List (String × DataW Unit)} (h : laidMet Tryz.prog (("oathbook/sha.rounds", Lib.tabData .u32 tableZ) :: rest) W) : Tb W := by
 have ht := Lib.tabIs_of_head gTab gTabType uz225 uz196 cells32 cellsR h
 unfold Lib.TabIs World.var? at ht
 rw [gTab] at ht
 simp only [Option.bind_some] at ht
 split at ht
 ·rename_i cs t fr hg
  simp only [Option.some.injEq] at ht
  subst ht
  exact ⟨t, fr, hg⟩
 ·cases ht
end Go.Proofs.YtaebeemnipafbaaGreatDoor
