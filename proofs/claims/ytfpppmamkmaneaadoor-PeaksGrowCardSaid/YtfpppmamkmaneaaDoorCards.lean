/-
  DERIVED. GIVEN WITH THE SEED: THE CARDS: each row of YtfpppmamkmaneaaDoorRows.lean that lists a variable, with what it lists TIED to the program's text (the seventh form; the later family's looks); each row that meets fmt, with fmt's text TOLD by the authors' own Lean function (tested against real Go, not proved from fmt's source: count such statements apart). THE CARD IS WHAT COUNTS. Prove the row's statement (the work); the ties are given (YtfpppmamkmaneaaDoorTie.lean); close each card by the builder's one call (the guide's Derived/Test/ToyasCard.lean, 'card_holds'). Laid BY PROGRAM, IN A SANDBOX (cutbox-door.mjs). By AI agents, Wed Nov 11 2026. No macro, syntax, notation, axiom, sorry.
-/
import Derived.Test.YtfpppmamkmaneaaDoorRows
import GoSem.ClaimSeven
namespace Go.Proofs.YtfpppmamkmaneaaDoor
namespace Rows

/-- THE TIED CARD OF 'oathbooklaw1.TreeBinds'. -/
def treeBindsCard : Claim7 := { stood := { row := treeBindsRow, standIns := [], harness := (true, "b456c1d333e5c80249c159901fe918ff0c31bda657373ae66c4cfd430641ecc1"), looks := true }, kinds := [], alts := [], laidByText := true, laidKinds := [.data], laidTests := true, laidLooks := .later }
def TreeBindsCardSaid : Prop := Claim7.holds Tryd.pinned (.plain (OpenSpec.ofChange treeBindsSpec)) treeBindsCard

/-- THE TIED CARD OF 'oathbooklaw1.TreeSound'. -/
def treeSoundCard : Claim7 := { stood := { row := treeSoundRow, standIns := [], harness := (true, "b456c1d333e5c80249c159901fe918ff0c31bda657373ae66c4cfd430641ecc1"), looks := true }, kinds := [], alts := [], laidByText := true, laidKinds := [.data], laidTests := true, laidLooks := .later }
def TreeSoundCardSaid : Prop := Claim7.holds Tryd.pinned (.plain (OpenSpec.ofChange treeSoundSpec)) treeSoundCard

/-- THE TIED CARD OF 'oathbooklaw1.TreeProves'. -/
def treeProvesCard : Claim7 := { stood := { row := treeProvesRow, standIns := [], harness := (true, "b456c1d333e5c80249c159901fe918ff0c31bda657373ae66c4cfd430641ecc1"), looks := true }, kinds := [], alts := [], laidByText := true, laidKinds := [.data], laidTests := true, laidLooks := .later }
def TreeProvesCardSaid : Prop := Claim7.holds Tryd.pinned (.plain (OpenSpec.ofChange treeProvesSpec)) treeProvesCard

/-- THE TIED CARD OF 'oathbooklaw1.GrowProves'. -/
def growProvesCard : Claim7 := { stood := { row := growProvesRow, standIns := [], harness := (true, "b456c1d333e5c80249c159901fe918ff0c31bda657373ae66c4cfd430641ecc1"), looks := true }, kinds := [], alts := [], laidByText := true, laidKinds := [.data], laidTests := true, laidLooks := .later }
def GrowProvesCardSaid : Prop := Claim7.holds Tryd.pinned (.plain (OpenSpec.ofChange growProvesSpec)) growProvesCard

/-- THE TIED CARD OF 'oathbooklaw1.GrowSound'. -/
def growSoundCard : Claim7 := { stood := { row := growSoundRow, standIns := [], harness := (true, "b456c1d333e5c80249c159901fe918ff0c31bda657373ae66c4cfd430641ecc1"), looks := true }, kinds := [], alts := [], laidByText := true, laidKinds := [.data], laidTests := true, laidLooks := .later }
def GrowSoundCardSaid : Prop := Claim7.holds Tryd.pinned (.plain (OpenSpec.ofChange growSoundSpec)) growSoundCard

/-- THE TIED CARD OF 'oathbooklaw1.PeaksAre'. -/
def peaksAreCard : Claim7 := { stood := { row := peaksAreRow, standIns := [], harness := (true, "b456c1d333e5c80249c159901fe918ff0c31bda657373ae66c4cfd430641ecc1"), looks := true }, kinds := [], alts := [], laidByText := true, laidKinds := [.data, .data, .data], laidTests := true, laidLooks := .later }
def PeaksAreCardSaid : Prop := Claim7.holds Tryd.pinned (.plain (OpenSpec.ofChange peaksAreSpec)) peaksAreCard

/-- THE TIED CARD OF 'oathbooklaw1.PeaksGrow'. -/
def peaksGrowCard : Claim7 := { stood := { row := peaksGrowRow, standIns := [], harness := (true, "b456c1d333e5c80249c159901fe918ff0c31bda657373ae66c4cfd430641ecc1"), looks := true }, kinds := [], alts := [], laidByText := true, laidKinds := [.data, .data, .data], laidTests := true, laidLooks := .later }
def PeaksGrowCardSaid : Prop := Claim7.holds Tryd.pinned (.plain (OpenSpec.ofChange peaksGrowSpec)) peaksGrowCard

/-- THE TIED CARD OF 'oathbooklaw1.TreeRoots'. -/
def treeRootsCard : Claim7 := { stood := { row := treeRootsRow, standIns := [], harness := (true, "b456c1d333e5c80249c159901fe918ff0c31bda657373ae66c4cfd430641ecc1"), looks := true }, kinds := [], alts := [], laidByText := true, laidKinds := [.data, .handle], laidTests := true, laidLooks := .later }
def TreeRootsCardSaid : Prop := Claim7.holds Tryd.pinned (.plain (OpenSpec.ofChange treeRootsSpec)) treeRootsCard

/-- THE TIED CARD OF 'oathbooklaw1.TreePaths'. -/
def treePathsCard : Claim7 := { stood := { row := treePathsRow, standIns := [], harness := (true, "b456c1d333e5c80249c159901fe918ff0c31bda657373ae66c4cfd430641ecc1"), looks := true }, kinds := [], alts := [], laidByText := true, laidKinds := [.data, .handle], laidTests := true, laidLooks := .later }
def TreePathsCardSaid : Prop := Claim7.holds Tryd.pinned (.plain (OpenSpec.ofChange treePathsSpec)) treePathsCard

/-- THE TIED CARD OF 'oathbooklaw1.PeaksTell'. -/
def peaksTellCard : Claim7 := { stood := { row := peaksTellRow, standIns := [], harness := (true, "b456c1d333e5c80249c159901fe918ff0c31bda657373ae66c4cfd430641ecc1"), looks := true }, kinds := [], alts := [], laidByText := true, laidKinds := [.data, .data, .data, .handle], laidTests := true, laidLooks := .later }
def PeaksTellCardSaid : Prop := Claim7.holds Tryd.pinned (.plain (OpenSpec.ofChange peaksTellSpec)) peaksTellCard

/-- THE TIED CARD OF 'oathbooklaw1.GrowTells'. -/
def growTellsCard : Claim7 := { stood := { row := growTellsRow, standIns := [], harness := (true, "b456c1d333e5c80249c159901fe918ff0c31bda657373ae66c4cfd430641ecc1"), looks := true }, kinds := [], alts := [], laidByText := true, laidKinds := [.data, .handle], laidTests := true, laidLooks := .later }
def GrowTellsCardSaid : Prop := Claim7.holds Tryd.pinned (.plain (OpenSpec.ofChange growTellsSpec)) growTellsCard

/-- THE TIED CARD OF 'oathbooklaw1.WotsTells'. -/
def wotsTellsCard : Claim7 := { stood := { row := wotsTellsRow, standIns := [], harness := (true, "b456c1d333e5c80249c159901fe918ff0c31bda657373ae66c4cfd430641ecc1"), looks := true }, kinds := [], alts := [], laidByText := true, laidKinds := [.data, .handle], laidTests := true, laidLooks := .later }
def WotsTellsCardSaid : Prop := Claim7.holds Tryd.pinned (.plain (OpenSpec.ofChange wotsTellsSpec)) wotsTellsCard

/-- THE SECOND FORM's CARD OF 'oathbooklaw1.TreeBinds'. -/
def treeBindsUptoCard : Claim7 := { stood := { row := treeBindsUptoRow, standIns := [], harness := (true, "b456c1d333e5c80249c159901fe918ff0c31bda657373ae66c4cfd430641ecc1"), looks := true }, kinds := [], alts := [], laidByText := true, laidKinds := [.data], laidTests := true, laidLooks := .later }
def TreeBindsUptoCardSaid : Prop := Claim7.holds Tryd.pinned (.plain (OpenSpec.upto treeBindsSpec)) treeBindsUptoCard

/-- THE SECOND FORM's CARD OF 'oathbooklaw1.TreeSound'. -/
def treeSoundUptoCard : Claim7 := { stood := { row := treeSoundUptoRow, standIns := [], harness := (true, "b456c1d333e5c80249c159901fe918ff0c31bda657373ae66c4cfd430641ecc1"), looks := true }, kinds := [], alts := [], laidByText := true, laidKinds := [.data], laidTests := true, laidLooks := .later }
def TreeSoundUptoCardSaid : Prop := Claim7.holds Tryd.pinned (.plain (OpenSpec.upto treeSoundSpec)) treeSoundUptoCard

/-- THE SECOND FORM's CARD OF 'oathbooklaw1.TreeProves'. -/
def treeProvesUptoCard : Claim7 := { stood := { row := treeProvesUptoRow, standIns := [], harness := (true, "b456c1d333e5c80249c159901fe918ff0c31bda657373ae66c4cfd430641ecc1"), looks := true }, kinds := [], alts := [], laidByText := true, laidKinds := [.data], laidTests := true, laidLooks := .later }
def TreeProvesUptoCardSaid : Prop := Claim7.holds Tryd.pinned (.plain (OpenSpec.upto treeProvesSpec)) treeProvesUptoCard

/-- THE SECOND FORM's CARD OF 'oathbooklaw1.GrowProves'. -/
def growProvesUptoCard : Claim7 := { stood := { row := growProvesUptoRow, standIns := [], harness := (true, "b456c1d333e5c80249c159901fe918ff0c31bda657373ae66c4cfd430641ecc1"), looks := true }, kinds := [], alts := [], laidByText := true, laidKinds := [.data], laidTests := true, laidLooks := .later }
def GrowProvesUptoCardSaid : Prop := Claim7.holds Tryd.pinned (.plain (OpenSpec.upto growProvesSpec)) growProvesUptoCard

/-- THE SECOND FORM's CARD OF 'oathbooklaw1.GrowSound'. -/
def growSoundUptoCard : Claim7 := { stood := { row := growSoundUptoRow, standIns := [], harness := (true, "b456c1d333e5c80249c159901fe918ff0c31bda657373ae66c4cfd430641ecc1"), looks := true }, kinds := [], alts := [], laidByText := true, laidKinds := [.data], laidTests := true, laidLooks := .later }
def GrowSoundUptoCardSaid : Prop := Claim7.holds Tryd.pinned (.plain (OpenSpec.upto growSoundSpec)) growSoundUptoCard

/-- THE SECOND FORM's CARD OF 'oathbooklaw1.PeaksAre'. -/
def peaksAreUptoCard : Claim7 := { stood := { row := peaksAreUptoRow, standIns := [], harness := (true, "b456c1d333e5c80249c159901fe918ff0c31bda657373ae66c4cfd430641ecc1"), looks := true }, kinds := [], alts := [], laidByText := true, laidKinds := [.data, .data, .data], laidTests := true, laidLooks := .later }
def PeaksAreUptoCardSaid : Prop := Claim7.holds Tryd.pinned (.plain (OpenSpec.upto peaksAreSpec)) peaksAreUptoCard

/-- THE SECOND FORM's CARD OF 'oathbooklaw1.PeaksGrow'. -/
def peaksGrowUptoCard : Claim7 := { stood := { row := peaksGrowUptoRow, standIns := [], harness := (true, "b456c1d333e5c80249c159901fe918ff0c31bda657373ae66c4cfd430641ecc1"), looks := true }, kinds := [], alts := [], laidByText := true, laidKinds := [.data, .data, .data], laidTests := true, laidLooks := .later }
def PeaksGrowUptoCardSaid : Prop := Claim7.holds Tryd.pinned (.plain (OpenSpec.upto peaksGrowSpec)) peaksGrowUptoCard

/-- THE SECOND FORM's CARD OF 'oathbooklaw1.TreeRoots'. -/
def treeRootsUptoCard : Claim7 := { stood := { row := treeRootsUptoRow, standIns := [], harness := (true, "b456c1d333e5c80249c159901fe918ff0c31bda657373ae66c4cfd430641ecc1"), looks := true }, kinds := [], alts := [], laidByText := true, laidKinds := [.data, .handle], laidTests := true, laidLooks := .later }
def TreeRootsUptoCardSaid : Prop := Claim7.holds Tryd.pinned (.plain (OpenSpec.upto treeRootsSpec)) treeRootsUptoCard

/-- THE SECOND FORM's CARD OF 'oathbooklaw1.TreePaths'. -/
def treePathsUptoCard : Claim7 := { stood := { row := treePathsUptoRow, standIns := [], harness := (true, "b456c1d333e5c80249c159901fe918ff0c31bda657373ae66c4cfd430641ecc1"), looks := true }, kinds := [], alts := [], laidByText := true, laidKinds := [.data, .handle], laidTests := true, laidLooks := .later }
def TreePathsUptoCardSaid : Prop := Claim7.holds Tryd.pinned (.plain (OpenSpec.upto treePathsSpec)) treePathsUptoCard

/-- THE SECOND FORM's CARD OF 'oathbooklaw1.PeaksTell'. -/
def peaksTellUptoCard : Claim7 := { stood := { row := peaksTellUptoRow, standIns := [], harness := (true, "b456c1d333e5c80249c159901fe918ff0c31bda657373ae66c4cfd430641ecc1"), looks := true }, kinds := [], alts := [], laidByText := true, laidKinds := [.data, .data, .data, .handle], laidTests := true, laidLooks := .later }
def PeaksTellUptoCardSaid : Prop := Claim7.holds Tryd.pinned (.plain (OpenSpec.upto peaksTellSpec)) peaksTellUptoCard

/-- THE SECOND FORM's CARD OF 'oathbooklaw1.GrowTells'. -/
def growTellsUptoCard : Claim7 := { stood := { row := growTellsUptoRow, standIns := [], harness := (true, "b456c1d333e5c80249c159901fe918ff0c31bda657373ae66c4cfd430641ecc1"), looks := true }, kinds := [], alts := [], laidByText := true, laidKinds := [.data, .handle], laidTests := true, laidLooks := .later }
def GrowTellsUptoCardSaid : Prop := Claim7.holds Tryd.pinned (.plain (OpenSpec.upto growTellsSpec)) growTellsUptoCard

/-- THE SECOND FORM's CARD OF 'oathbooklaw1.WotsTells'. -/
def wotsTellsUptoCard : Claim7 := { stood := { row := wotsTellsUptoRow, standIns := [], harness := (true, "b456c1d333e5c80249c159901fe918ff0c31bda657373ae66c4cfd430641ecc1"), looks := true }, kinds := [], alts := [], laidByText := true, laidKinds := [.data, .handle], laidTests := true, laidLooks := .later }
def WotsTellsUptoCardSaid : Prop := Claim7.holds Tryd.pinned (.plain (OpenSpec.upto wotsTellsSpec)) wotsTellsUptoCard
end Rows
end Go.Proofs.YtfpppmamkmaneaaDoor
