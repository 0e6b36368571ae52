/-
  DERIVED. GIVEN WITH THE SEED: THE CARDS: each row of YtplpmfmnlgepoaaDoorRows.lean that lists a variable, with what it lists TIED to the program's text (the seventh form; the later family's looks); each row that meets fmt, with fmt's text TOLD by the authors' own Lean function (tested against real Go, not proved from fmt's source: count such statements apart). THE CARD IS WHAT COUNTS. Prove the row's statement (the work); the ties are given (YtplpmfmnlgepoaaDoorTie.lean); close each card by the builder's one call (the guide's Derived/Test/ToyasCard.lean, 'card_holds'). Laid BY PROGRAM, IN A SANDBOX (cutbox-door.mjs). By AI agents, Wed Nov 11 2026. No macro, syntax, notation, axiom, sorry.
-/
import Derived.Test.YtplpmfmnlgepoaaDoorRows
import GoSem.ClaimSeven
namespace Go.Proofs.YtplpmfmnlgepoaaDoor
namespace Rows

/-- THE TIED CARD OF 'oathbooklaw1.ChainWalks'. -/
def chainWalksCard : Claim7 := { stood := { row := chainWalksRow, standIns := [], harness := (true, "9909ba128059b2248e2a6686ab5b940457d38fe11251e398ae5c47fa77719cb5"), looks := true }, kinds := [], alts := [], laidByText := true, laidKinds := [.data, .handle], laidTests := true, laidLooks := .later }
def ChainWalksCardSaid : Prop := Claim7.holds Tryd.pinned (.plain (OpenSpec.ofChange chainWalksSpec)) chainWalksCard

/-- THE TIED CARD OF 'oathbooklaw1.MacTells'. -/
def macTellsCard : Claim7 := { stood := { row := macTellsRow, standIns := [], harness := (true, "9909ba128059b2248e2a6686ab5b940457d38fe11251e398ae5c47fa77719cb5"), looks := true }, kinds := [], alts := [], laidByText := true, laidKinds := [.data, .handle], laidTests := true, laidLooks := .later }
def MacTellsCardSaid : Prop := Claim7.holds Tryd.pinned (.plain (OpenSpec.ofChange macTellsSpec)) macTellsCard

/-- THE TIED CARD OF 'oathbooklaw1.OctetNumbers'. -/
def octetNumbersCard : Claim7 := { stood := { row := octetNumbersRow, standIns := [], harness := (true, "9909ba128059b2248e2a6686ab5b940457d38fe11251e398ae5c47fa77719cb5"), looks := true }, kinds := [], alts := [], laidByText := true, laidKinds := [.handle], laidTests := true, laidLooks := .later }
def OctetNumbersCardSaid : Prop := Claim7.holds Tryd.pinned (.plain (OpenSpec.ofChange octetNumbersSpec)) octetNumbersCard

/-- THE TIED CARD OF 'oathbooklaw1.OctetHexes'. -/
def octetHexesCard : Claim7 := { stood := { row := octetHexesRow, standIns := [], harness := (true, "9909ba128059b2248e2a6686ab5b940457d38fe11251e398ae5c47fa77719cb5"), looks := true }, kinds := [], alts := [], laidByText := true, laidKinds := [.handle], laidTests := true, laidLooks := .later }
def OctetHexesCardSaid : Prop := Claim7.holds Tryd.pinned (.plain (OpenSpec.ofChange octetHexesSpec)) octetHexesCard

/-- THE TIED CARD OF 'oathbooklaw1.OnceTells'. -/
def onceTellsCard : Claim7 := { stood := { row := onceTellsRow, standIns := [], harness := (true, "9909ba128059b2248e2a6686ab5b940457d38fe11251e398ae5c47fa77719cb5"), looks := true }, kinds := [], alts := [], laidByText := true, laidKinds := [.data, .handle], laidTests := true, laidLooks := .later }
def OnceTellsCardSaid : Prop := Claim7.holds Tryd.pinned (.plain (OpenSpec.ofChange onceTellsSpec)) onceTellsCard

/-- THE TIED CARD OF 'oathbooklaw1.ChainBack'. -/
def chainBackCard : Claim7 := { stood := { row := chainBackRow, standIns := [], harness := (true, "9909ba128059b2248e2a6686ab5b940457d38fe11251e398ae5c47fa77719cb5"), looks := true }, kinds := [], alts := [], laidByText := true, laidKinds := [.data, .handle], laidTests := true, laidLooks := .later }
def ChainBackCardSaid : Prop := Claim7.holds Tryd.pinned (.plain (OpenSpec.ofChange chainBackSpec)) chainBackCard

/-- THE SECOND FORM's CARD OF 'oathbooklaw1.ChainWalks'. -/
def chainWalksUptoCard : Claim7 := { stood := { row := chainWalksUptoRow, standIns := [], harness := (true, "9909ba128059b2248e2a6686ab5b940457d38fe11251e398ae5c47fa77719cb5"), looks := true }, kinds := [], alts := [], laidByText := true, laidKinds := [.data, .handle], laidTests := true, laidLooks := .later }
def ChainWalksUptoCardSaid : Prop := Claim7.holds Tryd.pinned (.plain (OpenSpec.upto chainWalksSpec)) chainWalksUptoCard

/-- THE SECOND FORM's CARD OF 'oathbooklaw1.MacTells'. -/
def macTellsUptoCard : Claim7 := { stood := { row := macTellsUptoRow, standIns := [], harness := (true, "9909ba128059b2248e2a6686ab5b940457d38fe11251e398ae5c47fa77719cb5"), looks := true }, kinds := [], alts := [], laidByText := true, laidKinds := [.data, .handle], laidTests := true, laidLooks := .later }
def MacTellsUptoCardSaid : Prop := Claim7.holds Tryd.pinned (.plain (OpenSpec.upto macTellsSpec)) macTellsUptoCard

/-- THE SECOND FORM's CARD OF 'oathbooklaw1.OctetNumbers'. -/
def octetNumbersUptoCard : Claim7 := { stood := { row := octetNumbersUptoRow, standIns := [], harness := (true, "9909ba128059b2248e2a6686ab5b940457d38fe11251e398ae5c47fa77719cb5"), looks := true }, kinds := [], alts := [], laidByText := true, laidKinds := [.handle], laidTests := true, laidLooks := .later }
def OctetNumbersUptoCardSaid : Prop := Claim7.holds Tryd.pinned (.plain (OpenSpec.upto octetNumbersSpec)) octetNumbersUptoCard

/-- THE SECOND FORM's CARD OF 'oathbooklaw1.OctetHexes'. -/
def octetHexesUptoCard : Claim7 := { stood := { row := octetHexesUptoRow, standIns := [], harness := (true, "9909ba128059b2248e2a6686ab5b940457d38fe11251e398ae5c47fa77719cb5"), looks := true }, kinds := [], alts := [], laidByText := true, laidKinds := [.handle], laidTests := true, laidLooks := .later }
def OctetHexesUptoCardSaid : Prop := Claim7.holds Tryd.pinned (.plain (OpenSpec.upto octetHexesSpec)) octetHexesUptoCard

/-- THE SECOND FORM's CARD OF 'oathbooklaw1.OnceTells'. -/
def onceTellsUptoCard : Claim7 := { stood := { row := onceTellsUptoRow, standIns := [], harness := (true, "9909ba128059b2248e2a6686ab5b940457d38fe11251e398ae5c47fa77719cb5"), looks := true }, kinds := [], alts := [], laidByText := true, laidKinds := [.data, .handle], laidTests := true, laidLooks := .later }
def OnceTellsUptoCardSaid : Prop := Claim7.holds Tryd.pinned (.plain (OpenSpec.upto onceTellsSpec)) onceTellsUptoCard

/-- THE SECOND FORM's CARD OF 'oathbooklaw1.ChainBack'. -/
def chainBackUptoCard : Claim7 := { stood := { row := chainBackUptoRow, standIns := [], harness := (true, "9909ba128059b2248e2a6686ab5b940457d38fe11251e398ae5c47fa77719cb5"), looks := true }, kinds := [], alts := [], laidByText := true, laidKinds := [.data, .handle], laidTests := true, laidLooks := .later }
def ChainBackUptoCardSaid : Prop := Claim7.holds Tryd.pinned (.plain (OpenSpec.upto chainBackSpec)) chainBackUptoCard
end Rows
end Go.Proofs.YtplpmfmnlgepoaaDoor
