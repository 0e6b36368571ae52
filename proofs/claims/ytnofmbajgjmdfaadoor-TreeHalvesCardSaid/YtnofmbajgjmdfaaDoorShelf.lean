/-
  Laid here: the library's contracts for math/bits.Len, off the kit's shelf.
-/
import Derived.Shelf.Lay
import Derived.Shelf.Small.Bits
import Derived.Test.YtnofmbajgjmdfaaDoorProg
namespace Go.Proofs
open Go.Shelf
shelf_lay Lays.n129 Nm 129 at Tryd as Tryd.lays129
theorem Tryd.bits_Len64 (x : Int) (w : World) (h0 : 0 ≤ x) (h1 : x ≤ 18446744073709551615) :
    Calls Tryd.prog 67 #[.int .u64 x] w fun e w' => e = .returned (.int .i64 (Lib.bitLen x.toNat)) ∧ w' = w := Any.bits_Len64 Tryd.lays129 x w h0 h1
shelf_lay Lays.n125 Nm 125 at Tryd as Tryd.lays125
theorem Tryd.bits_Len (x : Int) (w : World) (h0 : 0 ≤ x) (h1 : x ≤ 18446744073709551615) :
    Calls Tryd.prog 65 #[.int .u64 x] w fun e w' => e = .returned (.int .i64 (Lib.bitLen x.toNat)) ∧ w' = w := Any.bits_Len Tryd.lays125 x w h0 h1
#print axioms Tryd.bits_Len
end Go.Proofs
