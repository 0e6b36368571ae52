/-
  Proved here: the contracts of tree.Leaf and of the reference's Leaf. Condition: the table of round constants stands.
-/
import Derived.Test.YtaebeemnipafbaaGreatDoorTree
import Derived.Test.YtaebeemnipafbaaGreatDoorRefSum
import Derived.Test.YtaebeemnipafbaaGreatDoorSq
set_option linter.unusedSimpArgs false
set_option linter.unusedVariables false
set_option maxRecDepth 100000
set_option maxHeartbeats 200000000
namespace Go.Proofs.YtaebeemnipafbaaGreatDoor
open Go.RowKit
def leafBN (b : List UInt8) : Dig := sha (0 :: b)
theorem tleaf_any (b : List UInt8) (A : Option Addr) (n c : Nat) (w : World) (hT : Tb w) (hx : SlR w A n c 1 (GK b)) (hn : n ≤ 140737488354000) :
  Calls Tryz.prog 82 #[.slice A n c] w fun e w' => e = .returned (leafBN b).v ∧ St w w' [] := by
 have Ga := St.refl w
 have HT := Gg hT
 have HB := Gg (show [Value.int .u8 0] ++ GK b = GK (0 :: b) from rfl)
 clear hT
 go_enter Tryz.func82, Tryz.ntmps82
 go_wp2_with (first | (go_at_call 80; (try clear Gb); refine (NS (List.cons 0 b) _ _ _ _ (HT.out.of Ga) (by rw [← HB.out]; exact Ga.sl 0 rfl) (by omega)).mono ?_; rintro e Wk1 ⟨rfl, Gb⟩; replace Ga := Ga.keep Gb) | (refine Gk 2 rfl Gv ?_; (try clear Gb); intro g2 W2 Gb; replace Ga := Ga.tr1 Gb) | (refine Gq 3 rfl [_] (Kj GT) rfl uz22 GF rfl (by (simp [Value.cells]; done)) (by decide) (by decide) ?_; (try clear Gb); intro g3 W3 Gb; replace Ga := Ga.tr1 Gb; simp only [List.flatMap_cons, List.flatMap_nil, List.append_nil, Value.cells, List.toList_toArray] at Ga) | (refine GY (d := some 5) rfl rfl Ga rfl (by rfl) (by rfl) uz22 GF rfl (by decide) (by decide) 0 rfl (by rfl) (Ga.old (by decide) hx) (GX) (by omega) ?_; clear Ga; intro A5 c5 W5 Ga; simp only [Ge, Gf, List.nil_append, Nat.zero_add] at Ga) | ((refine Gr 2 6 Ga rfl (by rfl) (Gw rfl) (Dig.one _) Gv (by rfl) 1 rfl (by rfl) ?_; clear Ga; intro WS4 Ga; simp only [Ge, Gf, HB.out] at Ga)))
 refine Hw rfl rfl rfl (Ga.get 1 rfl) uz32 rfl Gv (by rfl) ?_
 exact ⟨rfl, Ga.forget⟩
theorem rleaf_any (b : List UInt8) (A : Option Addr) (n c : Nat) (w : World) (hx : SlR w A n c 1 (GK b)) (hn : n ≤ 140737488354000) :
  Calls Tryz.prog 50 #[.slice A n c] w fun e w' => e = .returned (leafBN b).v ∧ St w w' [] := by
 have Ga := St.refl w
 have HB := Gg (show [Value.int .u8 0] ++ GK b = GK (0 :: b) from rfl)
 go_enter Tryz.func50, Tryz.ntmps50
 go_wp2_with (first | (go_at_call 76; (try clear Gb); refine (Ng (List.cons 0 b) _ _ _ _ (by rw [← HB.out]; exact Ga.sl 0 rfl) (by omega)).mono ?_; rintro e Wk2 ⟨rfl, Gb⟩; replace Ga := Ga.keep Gb) | (refine Gk 2 rfl Gv ?_; (try clear Gb); intro g2 W2 Gb; replace Ga := Ga.tr1 Gb) | (refine Gq 3 rfl [_] (Kj GT) rfl uz22 GF rfl (by (simp [Value.cells]; done)) (by decide) (by decide) ?_; (try clear Gb); intro g3 W3 Gb; replace Ga := Ga.tr1 Gb; simp only [List.flatMap_cons, List.flatMap_nil, List.append_nil, Value.cells, List.toList_toArray] at Ga) | (refine GY (d := some 5) rfl rfl Ga rfl (by rfl) (by rfl) uz22 GF rfl (by decide) (by decide) 0 rfl (by rfl) (Ga.old (by decide) hx) (GX) (by omega) ?_; clear Ga; intro A5 c5 W5 Ga; simp only [Ge, Gf, List.nil_append, Nat.zero_add] at Ga) | ((refine Gr 2 6 Ga rfl (by rfl) (Gw rfl) (Dig.one _) Gv (by rfl) 1 rfl (by rfl) ?_; clear Ga; intro WS4 Ga; simp only [Ge, Gf, HB.out] at Ga)))
 refine Hw rfl rfl rfl (Ga.get 1 rfl) uz32 rfl Gv (by rfl) ?_
 exact ⟨rfl, Ga.forget⟩
end Go.Proofs.YtaebeemnipafbaaGreatDoor
