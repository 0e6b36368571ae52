/-
  DERIVED. GIVEN WITH THE SEED: THE CARDS: each row of YtnofmbajgjmdfabDoorRows.lean that lists a variable, with what it lists TIED to the program's text (the seventh form; the later family's looks); each row that meets fmt, with fmt's text TOLD by the authors' own Lean function (tested against real Go, not proved from fmt's source: count such statements apart). THE CARD IS WHAT COUNTS. Prove the row's statement (the work); the ties are given (YtnofmbajgjmdfabDoorTie.lean); close each card by the builder's one call (the guide's Derived/Test/ToyasCard.lean, 'card_holds'). Laid BY PROGRAM, IN A SANDBOX (cutbox-door.mjs). By AI agents, Wed Nov 11 2026. No macro, syntax, notation, axiom, sorry.
-/
import Derived.Test.YtnofmbajgjmdfabDoorRows
import GoSem.ClaimSeven
namespace Go.Proofs.YtnofmbajgjmdfabDoor
namespace Rows

/-- THE TIED CARD OF 'oathbooklaw1.WotsForged'. -/
def wotsForgedCard : Claim7 := { stood := { row := wotsForgedRow, standIns := [], harness := (true, "ad1d9e71ba9b71e24245abd4b01a2c84cec0bc776e3e19cea3f6bfab70527bfe"), looks := false }, kinds := [], alts := [], laidByText := true, laidKinds := [.data], laidTests := true, laidLooks := .later }
def WotsForgedCardSaid : Prop := Claim7.holds Tryd.pinned (.plain (OpenSpec.ofChange wotsForgedSpec)) wotsForgedCard

/-- THE SECOND FORM's CARD OF 'oathbooklaw1.WotsForged'. -/
def wotsForgedUptoCard : Claim7 := { stood := { row := wotsForgedUptoRow, standIns := [], harness := (true, "ad1d9e71ba9b71e24245abd4b01a2c84cec0bc776e3e19cea3f6bfab70527bfe"), looks := false }, kinds := [], alts := [], laidByText := true, laidKinds := [.data], laidTests := true, laidLooks := .later }
def WotsForgedUptoCardSaid : Prop := Claim7.holds Tryd.pinned (.plain (OpenSpec.upto wotsForgedSpec)) wotsForgedUptoCard
end Rows
end Go.Proofs.YtnofmbajgjmdfabDoor
