/-
  DERIVED. GIVEN WITH THE SEED: THE CARDS: each row of YtkbleigmfcleaaaDoorRows.lean that lists a variable, with what it lists TIED to the program's text (the seventh form; the later family's looks); each row that meets fmt, with fmt's text TOLD by the authors' own Lean function (tested against real Go, not proved from fmt's source: count such statements apart). THE CARD IS WHAT COUNTS. Prove the row's statement (the work); the ties are given (YtkbleigmfcleaaaDoorTie.lean); close each card by the builder's one call (the guide's Derived/Test/ToyasCard.lean, 'card_holds'). Laid BY PROGRAM, IN A SANDBOX (cutbox-door.mjs). By AI agents, Wed Nov 11 2026. No macro, syntax, notation, axiom, sorry.
-/
import Derived.Test.YtkbleigmfcleaaaDoorRows
import GoSem.ClaimSeven
namespace Go.Proofs.YtkbleigmfcleaaaDoor
namespace Rows

/-- THE TIED CARD OF 'oathbooklaw1.ChainBack'. -/
def chainBackCard : Claim7 := { stood := { row := chainBackRow, standIns := [], harness := (true, "9cd0b9ef593276b24f4d99c163e160ea18f28b68386dd77c50bcef0c5b1c6ea2"), looks := true }, kinds := [], alts := [], laidByText := true, laidKinds := [.data, .handle], laidTests := true, laidLooks := .later }
def ChainBackCardSaid : Prop := Claim7.holds Tryd.pinned (.plain (OpenSpec.ofChange chainBackSpec)) chainBackCard

/-- THE TIED CARD OF 'oathbooklaw3.TeamMore'. -/
def teamMoreCard : Claim7 := { stood := { row := teamMoreRow, standIns := [], harness := (true, "9cd0b9ef593276b24f4d99c163e160ea18f28b68386dd77c50bcef0c5b1c6ea2"), looks := true }, kinds := [], alts := [], laidByText := true, laidKinds := [.data], laidTests := true, laidLooks := .later }
def TeamMoreCardSaid : Prop := Claim7.holds Tryd.pinned (.plain (OpenSpec.ofChange teamMoreSpec)) teamMoreCard

/-- THE TIED CARD OF 'oathbooklaw3.TeamTells'. -/
def teamTellsCard : Claim7 := { stood := { row := teamTellsRow, standIns := [], harness := (true, "9cd0b9ef593276b24f4d99c163e160ea18f28b68386dd77c50bcef0c5b1c6ea2"), looks := true }, kinds := [], alts := [], laidByText := true, laidKinds := [.data], laidTests := true, laidLooks := .later }
def TeamTellsCardSaid : Prop := Claim7.holds Tryd.pinned (.plain (OpenSpec.ofChange teamTellsSpec)) teamTellsCard

/-- THE TIED CARD OF 'oathbooklaw3.TeamMeets'. -/
def teamMeetsCard : Claim7 := { stood := { row := teamMeetsRow, standIns := [], harness := (true, "9cd0b9ef593276b24f4d99c163e160ea18f28b68386dd77c50bcef0c5b1c6ea2"), looks := true }, kinds := [], alts := [], laidByText := true, laidKinds := [.data], laidTests := true, laidLooks := .later }
def TeamMeetsCardSaid : Prop := Claim7.holds Tryd.pinned (.plain (OpenSpec.ofChange teamMeetsSpec)) teamMeetsCard

/-- THE TIED CARD OF 'oathbooklaw3.DiaryBack'. -/
def diaryBackCard : Claim7 := { stood := { row := diaryBackRow, standIns := [], harness := (true, "9cd0b9ef593276b24f4d99c163e160ea18f28b68386dd77c50bcef0c5b1c6ea2"), looks := true }, kinds := [], alts := [], laidByText := true, laidKinds := [.data], laidTests := true, laidLooks := .later }
def DiaryBackCardSaid : Prop := Claim7.holds Tryd.pinned (.plain (OpenSpec.ofChange diaryBackSpec)) diaryBackCard

/-- THE TIED CARD OF 'oathbooklaw3.DiaryTorn'. -/
def diaryTornCard : Claim7 := { stood := { row := diaryTornRow, standIns := [], harness := (true, "9cd0b9ef593276b24f4d99c163e160ea18f28b68386dd77c50bcef0c5b1c6ea2"), looks := true }, kinds := [], alts := [], laidByText := true, laidKinds := [.data], laidTests := true, laidLooks := .later }
def DiaryTornCardSaid : Prop := Claim7.holds Tryd.pinned (.plain (OpenSpec.ofChange diaryTornSpec)) diaryTornCard

/-- THE TIED CARD OF 'oathbooklaw3.DiarySpoilt'. -/
def diarySpoiltCard : Claim7 := { stood := { row := diarySpoiltRow, standIns := [], harness := (true, "9cd0b9ef593276b24f4d99c163e160ea18f28b68386dd77c50bcef0c5b1c6ea2"), looks := true }, kinds := [], alts := [], laidByText := true, laidKinds := [.data], laidTests := true, laidLooks := .later }
def DiarySpoiltCardSaid : Prop := Claim7.holds Tryd.pinned (.plain (OpenSpec.ofChange diarySpoiltSpec)) diarySpoiltCard

/-- THE TIED CARD OF 'oathbooklaw3.DiaryTells'. -/
def diaryTellsCard : Claim7 := { stood := { row := diaryTellsRow, standIns := [], harness := (true, "9cd0b9ef593276b24f4d99c163e160ea18f28b68386dd77c50bcef0c5b1c6ea2"), looks := true }, kinds := [], alts := [], laidByText := true, laidKinds := [.data, .handle], laidTests := true, laidLooks := .later }
def DiaryTellsCardSaid : Prop := Claim7.holds Tryd.pinned (.plain (OpenSpec.ofChange diaryTellsSpec)) diaryTellsCard

/-- THE TIED CARD OF 'oathbooklaw3.PinBack'. -/
def pinBackCard : Claim7 := { stood := { row := pinBackRow, standIns := [], harness := (true, "9cd0b9ef593276b24f4d99c163e160ea18f28b68386dd77c50bcef0c5b1c6ea2"), looks := true }, kinds := [], alts := [], laidByText := true, laidKinds := [.data], laidTests := true, laidLooks := .later }
def PinBackCardSaid : Prop := Claim7.holds Tryd.pinned (.plain (OpenSpec.ofChange pinBackSpec)) pinBackCard

/-- THE TIED CARD OF 'oathbooklaw3.PinTakes'. -/
def pinTakesCard : Claim7 := { stood := { row := pinTakesRow, standIns := [], harness := (true, "9cd0b9ef593276b24f4d99c163e160ea18f28b68386dd77c50bcef0c5b1c6ea2"), looks := true }, kinds := [], alts := [], laidByText := true, laidKinds := [.data, .handle], laidTests := true, laidLooks := .later }
def PinTakesCardSaid : Prop := Claim7.holds Tryd.pinned (.plain (OpenSpec.ofChange pinTakesSpec)) pinTakesCard

/-- THE SECOND FORM's CARD OF 'oathbooklaw1.ChainBack'. -/
def chainBackUptoCard : Claim7 := { stood := { row := chainBackUptoRow, standIns := [], harness := (true, "9cd0b9ef593276b24f4d99c163e160ea18f28b68386dd77c50bcef0c5b1c6ea2"), looks := true }, kinds := [], alts := [], laidByText := true, laidKinds := [.data, .handle], laidTests := true, laidLooks := .later }
def ChainBackUptoCardSaid : Prop := Claim7.holds Tryd.pinned (.plain (OpenSpec.upto chainBackSpec)) chainBackUptoCard

/-- THE SECOND FORM's CARD OF 'oathbooklaw3.TeamMore'. -/
def teamMoreUptoCard : Claim7 := { stood := { row := teamMoreUptoRow, standIns := [], harness := (true, "9cd0b9ef593276b24f4d99c163e160ea18f28b68386dd77c50bcef0c5b1c6ea2"), looks := true }, kinds := [], alts := [], laidByText := true, laidKinds := [.data], laidTests := true, laidLooks := .later }
def TeamMoreUptoCardSaid : Prop := Claim7.holds Tryd.pinned (.plain (OpenSpec.upto teamMoreSpec)) teamMoreUptoCard

/-- THE SECOND FORM's CARD OF 'oathbooklaw3.TeamTells'. -/
def teamTellsUptoCard : Claim7 := { stood := { row := teamTellsUptoRow, standIns := [], harness := (true, "9cd0b9ef593276b24f4d99c163e160ea18f28b68386dd77c50bcef0c5b1c6ea2"), looks := true }, kinds := [], alts := [], laidByText := true, laidKinds := [.data], laidTests := true, laidLooks := .later }
def TeamTellsUptoCardSaid : Prop := Claim7.holds Tryd.pinned (.plain (OpenSpec.upto teamTellsSpec)) teamTellsUptoCard

/-- THE SECOND FORM's CARD OF 'oathbooklaw3.TeamMeets'. -/
def teamMeetsUptoCard : Claim7 := { stood := { row := teamMeetsUptoRow, standIns := [], harness := (true, "9cd0b9ef593276b24f4d99c163e160ea18f28b68386dd77c50bcef0c5b1c6ea2"), looks := true }, kinds := [], alts := [], laidByText := true, laidKinds := [.data], laidTests := true, laidLooks := .later }
def TeamMeetsUptoCardSaid : Prop := Claim7.holds Tryd.pinned (.plain (OpenSpec.upto teamMeetsSpec)) teamMeetsUptoCard

/-- THE SECOND FORM's CARD OF 'oathbooklaw3.DiaryBack'. -/
def diaryBackUptoCard : Claim7 := { stood := { row := diaryBackUptoRow, standIns := [], harness := (true, "9cd0b9ef593276b24f4d99c163e160ea18f28b68386dd77c50bcef0c5b1c6ea2"), looks := true }, kinds := [], alts := [], laidByText := true, laidKinds := [.data], laidTests := true, laidLooks := .later }
def DiaryBackUptoCardSaid : Prop := Claim7.holds Tryd.pinned (.plain (OpenSpec.upto diaryBackSpec)) diaryBackUptoCard

/-- THE SECOND FORM's CARD OF 'oathbooklaw3.DiaryTorn'. -/
def diaryTornUptoCard : Claim7 := { stood := { row := diaryTornUptoRow, standIns := [], harness := (true, "9cd0b9ef593276b24f4d99c163e160ea18f28b68386dd77c50bcef0c5b1c6ea2"), looks := true }, kinds := [], alts := [], laidByText := true, laidKinds := [.data], laidTests := true, laidLooks := .later }
def DiaryTornUptoCardSaid : Prop := Claim7.holds Tryd.pinned (.plain (OpenSpec.upto diaryTornSpec)) diaryTornUptoCard

/-- THE SECOND FORM's CARD OF 'oathbooklaw3.DiarySpoilt'. -/
def diarySpoiltUptoCard : Claim7 := { stood := { row := diarySpoiltUptoRow, standIns := [], harness := (true, "9cd0b9ef593276b24f4d99c163e160ea18f28b68386dd77c50bcef0c5b1c6ea2"), looks := true }, kinds := [], alts := [], laidByText := true, laidKinds := [.data], laidTests := true, laidLooks := .later }
def DiarySpoiltUptoCardSaid : Prop := Claim7.holds Tryd.pinned (.plain (OpenSpec.upto diarySpoiltSpec)) diarySpoiltUptoCard

/-- THE SECOND FORM's CARD OF 'oathbooklaw3.DiaryTells'. -/
def diaryTellsUptoCard : Claim7 := { stood := { row := diaryTellsUptoRow, standIns := [], harness := (true, "9cd0b9ef593276b24f4d99c163e160ea18f28b68386dd77c50bcef0c5b1c6ea2"), looks := true }, kinds := [], alts := [], laidByText := true, laidKinds := [.data, .handle], laidTests := true, laidLooks := .later }
def DiaryTellsUptoCardSaid : Prop := Claim7.holds Tryd.pinned (.plain (OpenSpec.upto diaryTellsSpec)) diaryTellsUptoCard

/-- THE SECOND FORM's CARD OF 'oathbooklaw3.PinBack'. -/
def pinBackUptoCard : Claim7 := { stood := { row := pinBackUptoRow, standIns := [], harness := (true, "9cd0b9ef593276b24f4d99c163e160ea18f28b68386dd77c50bcef0c5b1c6ea2"), looks := true }, kinds := [], alts := [], laidByText := true, laidKinds := [.data], laidTests := true, laidLooks := .later }
def PinBackUptoCardSaid : Prop := Claim7.holds Tryd.pinned (.plain (OpenSpec.upto pinBackSpec)) pinBackUptoCard

/-- THE SECOND FORM's CARD OF 'oathbooklaw3.PinTakes'. -/
def pinTakesUptoCard : Claim7 := { stood := { row := pinTakesUptoRow, standIns := [], harness := (true, "9cd0b9ef593276b24f4d99c163e160ea18f28b68386dd77c50bcef0c5b1c6ea2"), looks := true }, kinds := [], alts := [], laidByText := true, laidKinds := [.data, .handle], laidTests := true, laidLooks := .later }
def PinTakesUptoCardSaid : Prop := Claim7.holds Tryd.pinned (.plain (OpenSpec.upto pinTakesSpec)) pinTakesUptoCard
end Rows
end Go.Proofs.YtkbleigmfcleaaaDoor
