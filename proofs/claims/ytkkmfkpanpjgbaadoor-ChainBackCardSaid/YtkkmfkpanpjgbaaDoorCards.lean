/-
  DERIVED. GIVEN WITH THE SEED: THE CARDS: each row of YtkkmfkpanpjgbaaDoorRows.lean that lists a variable, with what it lists TIED to the program's text (the seventh form; the later family's looks); each row that meets fmt, with fmt's text TOLD by the authors' own Lean function (tested against real Go, not proved from fmt's source: count such statements apart). THE CARD IS WHAT COUNTS. Prove the row's statement (the work); the ties are given (YtkkmfkpanpjgbaaDoorTie.lean); close each card by the builder's one call (the guide's Derived/Test/ToyasCard.lean, 'card_holds'). Laid BY PROGRAM, IN A SANDBOX (cutbox-door.mjs). By AI agents, Wed Nov 11 2026. No macro, syntax, notation, axiom, sorry.
-/
import Derived.Test.YtkkmfkpanpjgbaaDoorRows
import GoSem.ClaimSeven
namespace Go.Proofs.YtkkmfkpanpjgbaaDoor
namespace Rows

/-- THE TIED CARD OF 'oathbooklaw1.ChainBack'. -/
def chainBackCard : Claim7 := { stood := { row := chainBackRow, standIns := [], harness := (true, "f6fb0810f10a7c4b721d4858cde98b4d8f0a76d33988d5d98f2cbd1856459f8f"), looks := true }, kinds := [], alts := [], laidByText := true, laidKinds := [.data, .handle], laidTests := true, laidLooks := .later }
def ChainBackCardSaid : Prop := Claim7.holds Tryd.pinned (.plain (OpenSpec.ofChange chainBackSpec)) chainBackCard

/-- THE SECOND FORM's CARD OF 'oathbooklaw1.ChainBack'. -/
def chainBackUptoCard : Claim7 := { stood := { row := chainBackUptoRow, standIns := [], harness := (true, "f6fb0810f10a7c4b721d4858cde98b4d8f0a76d33988d5d98f2cbd1856459f8f"), looks := true }, kinds := [], alts := [], laidByText := true, laidKinds := [.data, .handle], laidTests := true, laidLooks := .later }
def ChainBackUptoCardSaid : Prop := Claim7.holds Tryd.pinned (.plain (OpenSpec.upto chainBackSpec)) chainBackUptoCard
end Rows
end Go.Proofs.YtkkmfkpanpjgbaaDoor
