/-
  DERIVED. GIVEN WITH THE SEED: THE CARDS: each row of YtaebeemnipafbaaGreatDoorRows.lean that lists a variable, with what it lists TIED to the program's text (the seventh form; the later family's looks); each row that meets fmt, with fmt's text TOLD by the authors' own Lean function (tested against real Go, not proved from fmt's source: count such statements apart). THE CARD IS WHAT COUNTS. Prove the row's statement (the work); the ties are given (YtaebeemnipafbaaGreatDoorTie.lean); close each card by the builder's one call (the guide's Derived/Test/ToyasCard.lean, 'card_holds'). Laid BY PROGRAM, IN A SANDBOX (cutbox-door.mjs). By AI agents, Wed Nov 11 2026. No macro, syntax, notation, axiom, sorry.
-/
import Derived.Test.YtaebeemnipafbaaGreatDoorRows
import GoSem.ClaimSeven
namespace Go.Proofs.YtaebeemnipafbaaGreatDoor
namespace Rows

/-- THE TIED CARD OF 'oathbooklaw3.LogAdds'. -/
def logAddsCard : Claim7 := { stood := { row := logAddsRow, standIns := [], harness := (true, "215d7adcb9a2e5e8b6bc98b13ac839a8f2995bdc4005072d6419ccb275ad0794"), looks := true }, kinds := [], alts := [], laidByText := true, laidKinds := [.data, .handle], laidTests := true, laidLooks := .later }
def LogAddsCardSaid : Prop := Claim7.holds Tryz.pinned (.plain (OpenSpec.ofChange logAddsSpec)) logAddsCard

/-- THE TIED CARD OF 'oathbooklaw3.LogLooks'. -/
def logLooksCard : Claim7 := { stood := { row := logLooksRow, standIns := [], harness := (true, "215d7adcb9a2e5e8b6bc98b13ac839a8f2995bdc4005072d6419ccb275ad0794"), looks := true }, kinds := [], alts := [], laidByText := true, laidKinds := [.data, .handle], laidTests := true, laidLooks := .later }
def LogLooksCardSaid : Prop := Claim7.holds Tryz.pinned (.plain (OpenSpec.ofChange logLooksSpec)) logLooksCard

/-- THE TIED CARD OF 'oathbooklaw3.DeskAnswers'. -/
def deskAnswersCard : Claim7 := { stood := { row := deskAnswersRow, standIns := [], harness := (true, "215d7adcb9a2e5e8b6bc98b13ac839a8f2995bdc4005072d6419ccb275ad0794"), looks := true }, kinds := [], alts := [], laidByText := true, laidKinds := [.data, .data, .data, .data, .handle], laidTests := true, laidLooks := .later }
def DeskAnswersCardSaid : Prop := Claim7.holds Tryz.pinned (.plain (OpenSpec.ofChange deskAnswersSpec)) deskAnswersCard

/-- THE TIED CARD OF 'oathbooklaw3.DeskKeeps'. -/
def deskKeepsCard : Claim7 := { stood := { row := deskKeepsRow, standIns := [], harness := (true, "215d7adcb9a2e5e8b6bc98b13ac839a8f2995bdc4005072d6419ccb275ad0794"), looks := true }, kinds := [], alts := [], laidByText := true, laidKinds := [.data, .data, .data, .data, .handle], laidTests := true, laidLooks := .later }
def DeskKeepsCardSaid : Prop := Claim7.holds Tryz.pinned (.plain (OpenSpec.ofChange deskKeepsSpec)) deskKeepsCard

/-- THE TIED CARD OF 'oathbooklaw3.DeskTakes'. -/
def deskTakesCard : Claim7 := { stood := { row := deskTakesRow, standIns := [], harness := (true, "215d7adcb9a2e5e8b6bc98b13ac839a8f2995bdc4005072d6419ccb275ad0794"), looks := true }, kinds := [], alts := [], laidByText := true, laidKinds := [.data, .data, .data, .data, .handle], laidTests := true, laidLooks := .later }
def DeskTakesCardSaid : Prop := Claim7.holds Tryz.pinned (.plain (OpenSpec.ofChange deskTakesSpec)) deskTakesCard

/-- THE SECOND FORM's CARD OF 'oathbooklaw3.LogAdds'. -/
def logAddsUptoCard : Claim7 := { stood := { row := logAddsUptoRow, standIns := [], harness := (true, "215d7adcb9a2e5e8b6bc98b13ac839a8f2995bdc4005072d6419ccb275ad0794"), looks := true }, kinds := [], alts := [], laidByText := true, laidKinds := [.data, .handle], laidTests := true, laidLooks := .later }
def LogAddsUptoCardSaid : Prop := Claim7.holds Tryz.pinned (.plain (OpenSpec.upto logAddsSpec)) logAddsUptoCard

/-- THE SECOND FORM's CARD OF 'oathbooklaw3.LogLooks'. -/
def logLooksUptoCard : Claim7 := { stood := { row := logLooksUptoRow, standIns := [], harness := (true, "215d7adcb9a2e5e8b6bc98b13ac839a8f2995bdc4005072d6419ccb275ad0794"), looks := true }, kinds := [], alts := [], laidByText := true, laidKinds := [.data, .handle], laidTests := true, laidLooks := .later }
def LogLooksUptoCardSaid : Prop := Claim7.holds Tryz.pinned (.plain (OpenSpec.upto logLooksSpec)) logLooksUptoCard

/-- THE SECOND FORM's CARD OF 'oathbooklaw3.DeskAnswers'. -/
def deskAnswersUptoCard : Claim7 := { stood := { row := deskAnswersUptoRow, standIns := [], harness := (true, "215d7adcb9a2e5e8b6bc98b13ac839a8f2995bdc4005072d6419ccb275ad0794"), looks := true }, kinds := [], alts := [], laidByText := true, laidKinds := [.data, .data, .data, .data, .handle], laidTests := true, laidLooks := .later }
def DeskAnswersUptoCardSaid : Prop := Claim7.holds Tryz.pinned (.plain (OpenSpec.upto deskAnswersSpec)) deskAnswersUptoCard

/-- THE SECOND FORM's CARD OF 'oathbooklaw3.DeskKeeps'. -/
def deskKeepsUptoCard : Claim7 := { stood := { row := deskKeepsUptoRow, standIns := [], harness := (true, "215d7adcb9a2e5e8b6bc98b13ac839a8f2995bdc4005072d6419ccb275ad0794"), looks := true }, kinds := [], alts := [], laidByText := true, laidKinds := [.data, .data, .data, .data, .handle], laidTests := true, laidLooks := .later }
def DeskKeepsUptoCardSaid : Prop := Claim7.holds Tryz.pinned (.plain (OpenSpec.upto deskKeepsSpec)) deskKeepsUptoCard

/-- THE SECOND FORM's CARD OF 'oathbooklaw3.DeskTakes'. -/
def deskTakesUptoCard : Claim7 := { stood := { row := deskTakesUptoRow, standIns := [], harness := (true, "215d7adcb9a2e5e8b6bc98b13ac839a8f2995bdc4005072d6419ccb275ad0794"), looks := true }, kinds := [], alts := [], laidByText := true, laidKinds := [.data, .data, .data, .data, .handle], laidTests := true, laidLooks := .later }
def DeskTakesUptoCardSaid : Prop := Claim7.holds Tryz.pinned (.plain (OpenSpec.upto deskTakesSpec)) deskTakesUptoCard
end Rows
end Go.Proofs.YtaebeemnipafbaaGreatDoor
