/-
  Proved here: how structs of a row are opened: one of a number and three digests by value (a head), slices of structs of a number and a digest (seals, pebbles). No condition on any program.
-/
import Derived.Test.YtaebeemnipafbaaGreatDoorOpenB
import Derived.Deep.Strs
import Derived.ChangeSame
import Derived.Test.YtaebeemnipafbaaGreatDoorSq
set_option linter.unusedSimpArgs false
set_option linter.unusedVariables false
set_option maxRecDepth 100000
set_option maxHeartbeats 200000000
namespace Go.Proofs.YtaebeemnipafbaaGreatDoor
open Go.ChangeShapes Go.WideShapes Go.ChangeAt Go.RowKit Go.Deep
def hdCells (n : Int) (r m t : Dig) : List Value := .int .i64 n :: (r.arr.toList ++ (m.arr.toList ++ t.arr.toList))
theorem length_hdCells (n : Int) (r m t : Dig) : (hdCells n r m t).length = 97 := by simp [hdCells, Dig.size]
def Nj (l : List (Int × Dig)) : List Value := l.flatMap fun p => .int .i64 p.1 :: p.2.arr.toList
theorem length_pairsL (l : List (Int × Dig)) : (Nj l).length = l.length * 33 := by
 induction l with
 | nil => rfl
 | cons p l ih =>
  have : Nj (p :: l) = (.int .i64 p.1 :: p.2.arr.toList) ++ Nj l := by simp [Nj]
  rw [this, List.length_append, ih, List.length_cons, List.length_cons, Array.length_toList, Dig.size]
  omega
section
variable {P : Program} {H : Type} {enc : TypeId × Value → H} {W : World} {base : Nat} {spare : Nat → Bool} {held : Bool}
end
end Go.Proofs.YtaebeemnipafbaaGreatDoor
