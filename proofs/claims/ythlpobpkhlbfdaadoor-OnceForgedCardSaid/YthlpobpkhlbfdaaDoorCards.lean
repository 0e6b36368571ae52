/-
  DERIVED. GIVEN WITH THE SEED: THE CARDS: each row of YthlpobpkhlbfdaaDoorRows.lean that lists a variable, with what it lists TIED to the program's text (the seventh form; the later family's looks); each row that meets fmt, with fmt's text TOLD by the authors' own Lean function (tested against real Go, not proved from fmt's source: count such statements apart). THE CARD IS WHAT COUNTS. Prove the row's statement (the work); the ties are given (YthlpobpkhlbfdaaDoorTie.lean); close each card by the builder's one call (the guide's Derived/Test/ToyasCard.lean, 'card_holds'). Laid BY PROGRAM, IN A SANDBOX (cutbox-door.mjs). By AI agents, Wed Nov 11 2026. No macro, syntax, notation, axiom, sorry.
-/
import Derived.Test.YthlpobpkhlbfdaaDoorRows
import GoSem.ClaimSeven
namespace Go.Proofs.YthlpobpkhlbfdaaDoor
namespace Rows

/-- THE TIED CARD OF 'oathbooklaw1.OnceSigned'. -/
def onceSignedCard : Claim7 := { stood := { row := onceSignedRow, standIns := [], harness := (true, "0fb380fb18c2ecb9d16dc01b3fb0a132418a62799228e4d413c4b8152c8748a7"), looks := false }, kinds := [], alts := [], laidByText := true, laidKinds := [.data], laidTests := true, laidLooks := .later }
def OnceSignedCardSaid : Prop := Claim7.holds Tryd.pinned (.plain (OpenSpec.ofChange onceSignedSpec)) onceSignedCard

/-- THE TIED CARD OF 'oathbooklaw1.OnceForged'. -/
def onceForgedCard : Claim7 := { stood := { row := onceForgedRow, standIns := [], harness := (true, "0fb380fb18c2ecb9d16dc01b3fb0a132418a62799228e4d413c4b8152c8748a7"), looks := false }, kinds := [], alts := [], laidByText := true, laidKinds := [.data], laidTests := true, laidLooks := .later }
def OnceForgedCardSaid : Prop := Claim7.holds Tryd.pinned (.plain (OpenSpec.ofChange onceForgedSpec)) onceForgedCard

/-- THE SECOND FORM's CARD OF 'oathbooklaw1.OnceSigned'. -/
def onceSignedUptoCard : Claim7 := { stood := { row := onceSignedUptoRow, standIns := [], harness := (true, "0fb380fb18c2ecb9d16dc01b3fb0a132418a62799228e4d413c4b8152c8748a7"), looks := false }, kinds := [], alts := [], laidByText := true, laidKinds := [.data], laidTests := true, laidLooks := .later }
def OnceSignedUptoCardSaid : Prop := Claim7.holds Tryd.pinned (.plain (OpenSpec.upto onceSignedSpec)) onceSignedUptoCard

/-- THE SECOND FORM's CARD OF 'oathbooklaw1.OnceForged'. -/
def onceForgedUptoCard : Claim7 := { stood := { row := onceForgedUptoRow, standIns := [], harness := (true, "0fb380fb18c2ecb9d16dc01b3fb0a132418a62799228e4d413c4b8152c8748a7"), looks := false }, kinds := [], alts := [], laidByText := true, laidKinds := [.data], laidTests := true, laidLooks := .later }
def OnceForgedUptoCardSaid : Prop := Claim7.holds Tryd.pinned (.plain (OpenSpec.upto onceForgedSpec)) onceForgedUptoCard
end Rows
end Go.Proofs.YthlpobpkhlbfdaaDoor
