/-
  DERIVED. GIVEN WITH THE SEED: THE CARDS: each row of YtaebeemnipafbaaDoorRows.lean that lists a variable, with what it lists TIED to the program's text (the seventh form; the later family's looks); each row that meets fmt, with fmt's text TOLD by the authors' own Lean function (tested against real Go, not proved from fmt's source: count such statements apart). THE CARD IS WHAT COUNTS. Prove the row's statement (the work); the ties are given (YtaebeemnipafbaaDoorTie.lean); close each card by the builder's one call (the guide's Derived/Test/ToyasCard.lean, 'card_holds'). Laid BY PROGRAM, IN A SANDBOX (cutbox-door.mjs). By AI agents, Wed Nov 11 2026. No macro, syntax, notation, axiom, sorry.
-/
import Derived.Test.YtaebeemnipafbaaDoorRows
import GoSem.ClaimSeven
namespace Go.Proofs.YtaebeemnipafbaaDoor
namespace Rows

/-- THE TIED CARD OF 'oathbooklaw3.PinForks'. -/
def pinForksCard : Claim7 := { stood := { row := pinForksRow, standIns := [], harness := (true, "62104705559992c91bb1553ccdeaaa2d62c9e611607f0e16560b2dfbc5531ffd"), looks := true }, kinds := [], alts := [], laidByText := true, laidKinds := [.data], laidTests := true, laidLooks := .later }
def PinForksCardSaid : Prop := Claim7.holds Tryd.pinned (.plain (OpenSpec.ofChange pinForksSpec)) pinForksCard

/-- THE TIED CARD OF 'oathbooklaw3.LogOne'. -/
def logOneCard : Claim7 := { stood := { row := logOneRow, standIns := [], harness := (true, "62104705559992c91bb1553ccdeaaa2d62c9e611607f0e16560b2dfbc5531ffd"), looks := true }, kinds := [], alts := [], laidByText := true, laidKinds := [.data], laidTests := true, laidLooks := .later }
def LogOneCardSaid : Prop := Claim7.holds Tryd.pinned (.plain (OpenSpec.ofChange logOneSpec)) logOneCard

/-- THE TIED CARD OF 'oathbooklaw3.PinHonest'. -/
def pinHonestCard : Claim7 := { stood := { row := pinHonestRow, standIns := [], harness := (true, "62104705559992c91bb1553ccdeaaa2d62c9e611607f0e16560b2dfbc5531ffd"), looks := true }, kinds := [], alts := [], laidByText := true, laidKinds := [.data], laidTests := true, laidLooks := .later }
def PinHonestCardSaid : Prop := Claim7.holds Tryd.pinned (.plain (OpenSpec.ofChange pinHonestSpec)) pinHonestCard

/-- THE TIED CARD OF 'oathbooklaw3.LogTells'. -/
def logTellsCard : Claim7 := { stood := { row := logTellsRow, standIns := [], harness := (true, "62104705559992c91bb1553ccdeaaa2d62c9e611607f0e16560b2dfbc5531ffd"), looks := true }, kinds := [], alts := [], laidByText := true, laidKinds := [.data], laidTests := true, laidLooks := .later }
def LogTellsCardSaid : Prop := Claim7.holds Tryd.pinned (.plain (OpenSpec.ofChange logTellsSpec)) logTellsCard

/-- THE TIED CARD OF 'oathbooklaw3.LogGrows'. -/
def logGrowsCard : Claim7 := { stood := { row := logGrowsRow, standIns := [], harness := (true, "62104705559992c91bb1553ccdeaaa2d62c9e611607f0e16560b2dfbc5531ffd"), looks := true }, kinds := [], alts := [], laidByText := true, laidKinds := [.data], laidTests := true, laidLooks := .later }
def LogGrowsCardSaid : Prop := Claim7.holds Tryd.pinned (.plain (OpenSpec.ofChange logGrowsSpec)) logGrowsCard

/-- THE TIED CARD OF 'oathbooktop.TopBook'. -/
def topBookCard : Claim7 := { stood := { row := topBookRow, standIns := [], harness := (true, "62104705559992c91bb1553ccdeaaa2d62c9e611607f0e16560b2dfbc5531ffd"), looks := true }, kinds := [], alts := [], laidByText := true, laidKinds := [.data], laidTests := true, laidLooks := .later }
def TopBookCardSaid : Prop := Claim7.holds Tryd.pinned (.plain (OpenSpec.ofChange topBookSpec)) topBookCard

/-- THE TIED CARD OF 'oathbooktop.TopDiary'. -/
def topDiaryCard : Claim7 := { stood := { row := topDiaryRow, standIns := [], harness := (true, "62104705559992c91bb1553ccdeaaa2d62c9e611607f0e16560b2dfbc5531ffd"), looks := true }, kinds := [], alts := [], laidByText := true, laidKinds := [.data], laidTests := true, laidLooks := .later }
def TopDiaryCardSaid : Prop := Claim7.holds Tryd.pinned (.plain (OpenSpec.ofChange topDiarySpec)) topDiaryCard

/-- THE TIED CARD OF 'oathbooktop.TopKey'. -/
def topKeyCard : Claim7 := { stood := { row := topKeyRow, standIns := [], harness := (true, "62104705559992c91bb1553ccdeaaa2d62c9e611607f0e16560b2dfbc5531ffd"), looks := true }, kinds := [], alts := [], laidByText := true, laidKinds := [.data], laidTests := true, laidLooks := .later }
def TopKeyCardSaid : Prop := Claim7.holds Tryd.pinned (.plain (OpenSpec.ofChange topKeySpec)) topKeyCard

/-- THE SECOND FORM's CARD OF 'oathbooklaw3.PinForks'. -/
def pinForksUptoCard : Claim7 := { stood := { row := pinForksUptoRow, standIns := [], harness := (true, "62104705559992c91bb1553ccdeaaa2d62c9e611607f0e16560b2dfbc5531ffd"), looks := true }, kinds := [], alts := [], laidByText := true, laidKinds := [.data], laidTests := true, laidLooks := .later }
def PinForksUptoCardSaid : Prop := Claim7.holds Tryd.pinned (.plain (OpenSpec.upto pinForksSpec)) pinForksUptoCard

/-- THE SECOND FORM's CARD OF 'oathbooklaw3.LogOne'. -/
def logOneUptoCard : Claim7 := { stood := { row := logOneUptoRow, standIns := [], harness := (true, "62104705559992c91bb1553ccdeaaa2d62c9e611607f0e16560b2dfbc5531ffd"), looks := true }, kinds := [], alts := [], laidByText := true, laidKinds := [.data], laidTests := true, laidLooks := .later }
def LogOneUptoCardSaid : Prop := Claim7.holds Tryd.pinned (.plain (OpenSpec.upto logOneSpec)) logOneUptoCard

/-- THE SECOND FORM's CARD OF 'oathbooklaw3.PinHonest'. -/
def pinHonestUptoCard : Claim7 := { stood := { row := pinHonestUptoRow, standIns := [], harness := (true, "62104705559992c91bb1553ccdeaaa2d62c9e611607f0e16560b2dfbc5531ffd"), looks := true }, kinds := [], alts := [], laidByText := true, laidKinds := [.data], laidTests := true, laidLooks := .later }
def PinHonestUptoCardSaid : Prop := Claim7.holds Tryd.pinned (.plain (OpenSpec.upto pinHonestSpec)) pinHonestUptoCard

/-- THE SECOND FORM's CARD OF 'oathbooklaw3.LogTells'. -/
def logTellsUptoCard : Claim7 := { stood := { row := logTellsUptoRow, standIns := [], harness := (true, "62104705559992c91bb1553ccdeaaa2d62c9e611607f0e16560b2dfbc5531ffd"), looks := true }, kinds := [], alts := [], laidByText := true, laidKinds := [.data], laidTests := true, laidLooks := .later }
def LogTellsUptoCardSaid : Prop := Claim7.holds Tryd.pinned (.plain (OpenSpec.upto logTellsSpec)) logTellsUptoCard

/-- THE SECOND FORM's CARD OF 'oathbooklaw3.LogGrows'. -/
def logGrowsUptoCard : Claim7 := { stood := { row := logGrowsUptoRow, standIns := [], harness := (true, "62104705559992c91bb1553ccdeaaa2d62c9e611607f0e16560b2dfbc5531ffd"), looks := true }, kinds := [], alts := [], laidByText := true, laidKinds := [.data], laidTests := true, laidLooks := .later }
def LogGrowsUptoCardSaid : Prop := Claim7.holds Tryd.pinned (.plain (OpenSpec.upto logGrowsSpec)) logGrowsUptoCard

/-- THE SECOND FORM's CARD OF 'oathbooktop.TopBook'. -/
def topBookUptoCard : Claim7 := { stood := { row := topBookUptoRow, standIns := [], harness := (true, "62104705559992c91bb1553ccdeaaa2d62c9e611607f0e16560b2dfbc5531ffd"), looks := true }, kinds := [], alts := [], laidByText := true, laidKinds := [.data], laidTests := true, laidLooks := .later }
def TopBookUptoCardSaid : Prop := Claim7.holds Tryd.pinned (.plain (OpenSpec.upto topBookSpec)) topBookUptoCard

/-- THE SECOND FORM's CARD OF 'oathbooktop.TopDiary'. -/
def topDiaryUptoCard : Claim7 := { stood := { row := topDiaryUptoRow, standIns := [], harness := (true, "62104705559992c91bb1553ccdeaaa2d62c9e611607f0e16560b2dfbc5531ffd"), looks := true }, kinds := [], alts := [], laidByText := true, laidKinds := [.data], laidTests := true, laidLooks := .later }
def TopDiaryUptoCardSaid : Prop := Claim7.holds Tryd.pinned (.plain (OpenSpec.upto topDiarySpec)) topDiaryUptoCard

/-- THE SECOND FORM's CARD OF 'oathbooktop.TopKey'. -/
def topKeyUptoCard : Claim7 := { stood := { row := topKeyUptoRow, standIns := [], harness := (true, "62104705559992c91bb1553ccdeaaa2d62c9e611607f0e16560b2dfbc5531ffd"), looks := true }, kinds := [], alts := [], laidByText := true, laidKinds := [.data], laidTests := true, laidLooks := .later }
def TopKeyUptoCardSaid : Prop := Claim7.holds Tryd.pinned (.plain (OpenSpec.upto topKeySpec)) topKeyUptoCard
end Rows
end Go.Proofs.YtaebeemnipafbaaDoor
