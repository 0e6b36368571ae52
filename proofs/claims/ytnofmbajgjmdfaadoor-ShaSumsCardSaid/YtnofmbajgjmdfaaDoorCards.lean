/-
  DERIVED. GIVEN WITH THE SEED: THE CARDS: each row of YtnofmbajgjmdfaaDoorRows.lean that lists a variable, with what it lists TIED to the program's text (the seventh form; the later family's looks); each row that meets fmt, with fmt's text TOLD by the authors' own Lean function (tested against real Go, not proved from fmt's source: count such statements apart). THE CARD IS WHAT COUNTS. Prove the row's statement (the work); the ties are given (YtnofmbajgjmdfaaDoorTie.lean); close each card by the builder's one call (the guide's Derived/Test/ToyasCard.lean, 'card_holds'). Laid BY PROGRAM, IN A SANDBOX (cutbox-door.mjs). By AI agents, Wed Nov 11 2026. No macro, syntax, notation, axiom, sorry.
-/
import Derived.Test.YtnofmbajgjmdfaaDoorRows
import GoSem.ClaimSeven
namespace Go.Proofs.YtnofmbajgjmdfaaDoor
namespace Rows

/-- THE TIED CARD OF 'oathbooklaw1.ShaSums'. -/
def shaSumsCard : Claim7 := { stood := { row := shaSumsRow, standIns := [], harness := (true, "1628df6cc85be8b6b82da815a16837c34deabb886848233a6370b26abf7b4d97"), looks := false }, kinds := [], alts := [], laidByText := true, laidKinds := [.data], laidTests := true, laidLooks := .later }
def ShaSumsCardSaid : Prop := Claim7.holds Tryd.pinned (.plain (OpenSpec.ofChange shaSumsSpec)) shaSumsCard

/-- THE TIED CARD OF 'oathbooklaw1.ShaPieces'. -/
def shaPiecesCard : Claim7 := { stood := { row := shaPiecesRow, standIns := [], harness := (true, "1628df6cc85be8b6b82da815a16837c34deabb886848233a6370b26abf7b4d97"), looks := false }, kinds := [], alts := [], laidByText := true, laidKinds := [.data], laidTests := true, laidLooks := .later }
def ShaPiecesCardSaid : Prop := Claim7.holds Tryd.pinned (.plain (OpenSpec.ofChange shaPiecesSpec)) shaPiecesCard

/-- THE TIED CARD OF 'oathbooklaw1.MacKeys'. -/
def macKeysCard : Claim7 := { stood := { row := macKeysRow, standIns := [], harness := (true, "1628df6cc85be8b6b82da815a16837c34deabb886848233a6370b26abf7b4d97"), looks := false }, kinds := [], alts := [], laidByText := true, laidKinds := [.data], laidTests := true, laidLooks := .later }
def MacKeysCardSaid : Prop := Claim7.holds Tryd.pinned (.plain (OpenSpec.ofChange macKeysSpec)) macKeysCard

/-- THE TIED CARD OF 'oathbooklaw1.ChainAdds'. -/
def chainAddsCard : Claim7 := { stood := { row := chainAddsRow, standIns := [], harness := (true, "1628df6cc85be8b6b82da815a16837c34deabb886848233a6370b26abf7b4d97"), looks := false }, kinds := [], alts := [], laidByText := true, laidKinds := [.data], laidTests := true, laidLooks := .later }
def ChainAddsCardSaid : Prop := Claim7.holds Tryd.pinned (.plain (OpenSpec.ofChange chainAddsSpec)) chainAddsCard

/-- THE TIED CARD OF 'oathbooklaw1.MacExpands'. -/
def macExpandsCard : Claim7 := { stood := { row := macExpandsRow, standIns := [], harness := (true, "1628df6cc85be8b6b82da815a16837c34deabb886848233a6370b26abf7b4d97"), looks := false }, kinds := [], alts := [], laidByText := true, laidKinds := [.data], laidTests := true, laidLooks := .later }
def MacExpandsCardSaid : Prop := Claim7.holds Tryd.pinned (.plain (OpenSpec.ofChange macExpandsSpec)) macExpandsCard

/-- THE TIED CARD OF 'oathbooklaw1.TreeHalves'. -/
def treeHalvesCard : Claim7 := { stood := { row := treeHalvesRow, standIns := [], harness := (true, "1628df6cc85be8b6b82da815a16837c34deabb886848233a6370b26abf7b4d97"), looks := false }, kinds := [], alts := [], laidByText := true, laidKinds := [.data], laidTests := true, laidLooks := .later }
def TreeHalvesCardSaid : Prop := Claim7.holds Tryd.pinned (.plain (OpenSpec.ofChange treeHalvesSpec)) treeHalvesCard

/-- THE TIED CARD OF 'oathbooklaw1.OnceSigned'. -/
def onceSignedCard : Claim7 := { stood := { row := onceSignedRow, standIns := [], harness := (true, "1628df6cc85be8b6b82da815a16837c34deabb886848233a6370b26abf7b4d97"), looks := false }, kinds := [], alts := [], laidByText := true, laidKinds := [.data], laidTests := true, laidLooks := .later }
def OnceSignedCardSaid : Prop := Claim7.holds Tryd.pinned (.plain (OpenSpec.ofChange onceSignedSpec)) onceSignedCard

/-- THE TIED CARD OF 'oathbooklaw1.OnceForged'. -/
def onceForgedCard : Claim7 := { stood := { row := onceForgedRow, standIns := [], harness := (true, "1628df6cc85be8b6b82da815a16837c34deabb886848233a6370b26abf7b4d97"), looks := false }, kinds := [], alts := [], laidByText := true, laidKinds := [.data], laidTests := true, laidLooks := .later }
def OnceForgedCardSaid : Prop := Claim7.holds Tryd.pinned (.plain (OpenSpec.ofChange onceForgedSpec)) onceForgedCard

/-- THE TIED CARD OF 'oathbooklaw1.WotsSigned'. -/
def wotsSignedCard : Claim7 := { stood := { row := wotsSignedRow, standIns := [], harness := (true, "1628df6cc85be8b6b82da815a16837c34deabb886848233a6370b26abf7b4d97"), looks := false }, kinds := [], alts := [], laidByText := true, laidKinds := [.data], laidTests := true, laidLooks := .later }
def WotsSignedCardSaid : Prop := Claim7.holds Tryd.pinned (.plain (OpenSpec.ofChange wotsSignedSpec)) wotsSignedCard

/-- THE SECOND FORM's CARD OF 'oathbooklaw1.ShaSums'. -/
def shaSumsUptoCard : Claim7 := { stood := { row := shaSumsUptoRow, standIns := [], harness := (true, "1628df6cc85be8b6b82da815a16837c34deabb886848233a6370b26abf7b4d97"), looks := false }, kinds := [], alts := [], laidByText := true, laidKinds := [.data], laidTests := true, laidLooks := .later }
def ShaSumsUptoCardSaid : Prop := Claim7.holds Tryd.pinned (.plain (OpenSpec.upto shaSumsSpec)) shaSumsUptoCard

/-- THE SECOND FORM's CARD OF 'oathbooklaw1.ShaPieces'. -/
def shaPiecesUptoCard : Claim7 := { stood := { row := shaPiecesUptoRow, standIns := [], harness := (true, "1628df6cc85be8b6b82da815a16837c34deabb886848233a6370b26abf7b4d97"), looks := false }, kinds := [], alts := [], laidByText := true, laidKinds := [.data], laidTests := true, laidLooks := .later }
def ShaPiecesUptoCardSaid : Prop := Claim7.holds Tryd.pinned (.plain (OpenSpec.upto shaPiecesSpec)) shaPiecesUptoCard

/-- THE SECOND FORM's CARD OF 'oathbooklaw1.MacKeys'. -/
def macKeysUptoCard : Claim7 := { stood := { row := macKeysUptoRow, standIns := [], harness := (true, "1628df6cc85be8b6b82da815a16837c34deabb886848233a6370b26abf7b4d97"), looks := false }, kinds := [], alts := [], laidByText := true, laidKinds := [.data], laidTests := true, laidLooks := .later }
def MacKeysUptoCardSaid : Prop := Claim7.holds Tryd.pinned (.plain (OpenSpec.upto macKeysSpec)) macKeysUptoCard

/-- THE SECOND FORM's CARD OF 'oathbooklaw1.ChainAdds'. -/
def chainAddsUptoCard : Claim7 := { stood := { row := chainAddsUptoRow, standIns := [], harness := (true, "1628df6cc85be8b6b82da815a16837c34deabb886848233a6370b26abf7b4d97"), looks := false }, kinds := [], alts := [], laidByText := true, laidKinds := [.data], laidTests := true, laidLooks := .later }
def ChainAddsUptoCardSaid : Prop := Claim7.holds Tryd.pinned (.plain (OpenSpec.upto chainAddsSpec)) chainAddsUptoCard

/-- THE SECOND FORM's CARD OF 'oathbooklaw1.MacExpands'. -/
def macExpandsUptoCard : Claim7 := { stood := { row := macExpandsUptoRow, standIns := [], harness := (true, "1628df6cc85be8b6b82da815a16837c34deabb886848233a6370b26abf7b4d97"), looks := false }, kinds := [], alts := [], laidByText := true, laidKinds := [.data], laidTests := true, laidLooks := .later }
def MacExpandsUptoCardSaid : Prop := Claim7.holds Tryd.pinned (.plain (OpenSpec.upto macExpandsSpec)) macExpandsUptoCard

/-- THE SECOND FORM's CARD OF 'oathbooklaw1.TreeHalves'. -/
def treeHalvesUptoCard : Claim7 := { stood := { row := treeHalvesUptoRow, standIns := [], harness := (true, "1628df6cc85be8b6b82da815a16837c34deabb886848233a6370b26abf7b4d97"), looks := false }, kinds := [], alts := [], laidByText := true, laidKinds := [.data], laidTests := true, laidLooks := .later }
def TreeHalvesUptoCardSaid : Prop := Claim7.holds Tryd.pinned (.plain (OpenSpec.upto treeHalvesSpec)) treeHalvesUptoCard

/-- THE SECOND FORM's CARD OF 'oathbooklaw1.OnceSigned'. -/
def onceSignedUptoCard : Claim7 := { stood := { row := onceSignedUptoRow, standIns := [], harness := (true, "1628df6cc85be8b6b82da815a16837c34deabb886848233a6370b26abf7b4d97"), looks := false }, kinds := [], alts := [], laidByText := true, laidKinds := [.data], laidTests := true, laidLooks := .later }
def OnceSignedUptoCardSaid : Prop := Claim7.holds Tryd.pinned (.plain (OpenSpec.upto onceSignedSpec)) onceSignedUptoCard

/-- THE SECOND FORM's CARD OF 'oathbooklaw1.OnceForged'. -/
def onceForgedUptoCard : Claim7 := { stood := { row := onceForgedUptoRow, standIns := [], harness := (true, "1628df6cc85be8b6b82da815a16837c34deabb886848233a6370b26abf7b4d97"), looks := false }, kinds := [], alts := [], laidByText := true, laidKinds := [.data], laidTests := true, laidLooks := .later }
def OnceForgedUptoCardSaid : Prop := Claim7.holds Tryd.pinned (.plain (OpenSpec.upto onceForgedSpec)) onceForgedUptoCard

/-- THE SECOND FORM's CARD OF 'oathbooklaw1.WotsSigned'. -/
def wotsSignedUptoCard : Claim7 := { stood := { row := wotsSignedUptoRow, standIns := [], harness := (true, "1628df6cc85be8b6b82da815a16837c34deabb886848233a6370b26abf7b4d97"), looks := false }, kinds := [], alts := [], laidByText := true, laidKinds := [.data], laidTests := true, laidLooks := .later }
def WotsSignedUptoCardSaid : Prop := Claim7.holds Tryd.pinned (.plain (OpenSpec.upto wotsSignedSpec)) wotsSignedUptoCard
end Rows
end Go.Proofs.YtnofmbajgjmdfaaDoor
