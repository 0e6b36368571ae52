/-
  Proved here: the mark on a head, plainly. No condition.
-/
import Derived.Test.YtkbleigmfcleaaaDoorHead
import Derived.Test.YtkbleigmfcleaaaDoorMac
set_option maxRecDepth 20000
set_option linter.unusedSimpArgs false
set_option linter.unusedVariables false
namespace Go.Proofs.YtkbleigmfcleaaaDoor

/-- a witness's mark -/
def markN (key : List UInt8) (n : Int) (x y : Dig) : Dig := macN key (13 :: (sz8 n ++ (x.l ++ y.l)))
/-- a head's tag -/
def tagN (key : List UInt8) (n : Int) (x y : Dig) : Dig := macN key (sz4 n ++ (x.l ++ y.l))
end Go.Proofs.YtkbleigmfcleaaaDoor
