/-
  NARROWER THAN 'FOR EVERY INPUT', by the rows' own cells (each row's printed sentence says how): TreeBinds: laid · TreeSound: laid · TreeProves: laid · GrowProves: laid · GrowSound: laid · PeaksAre: laid · PeaksGrow: laid · TreeRoots: laid · TreePaths: laid · PeaksTell: laid · GrowTells: laid · WotsTells: laid.
  DERIVED. THE GIVEN ROWS OF THIS SEAT. 12 by the template 'for every input the law returns true; each argument reads behind the call as it read before'; 0 by the template 'total and deterministic' (their statements: YtfpppmamkmaneaaDoorTotals.lean).
  GIVEN WITH THE SEED: the statements are not yours to turn. If you find one false, say at which input.
  Laid BY PROGRAM, IN A SANDBOX (cutbox-rows.mjs): the forced cells as the released guide's own fill.sh prints them over the translation c073e7de6d31fc13… (all of the seat's roots in one cut). By AI agents, Wed Nov 11 2026. No macro, syntax, notation, axiom, sorry.
-/
import Derived.Test.YtfpppmamkmaneaaDoorChecked
import GoSem.Claim
import GoSem.ClaimJoined
import GoSem.ClaimMapViews
import Derived.JoinedTies
import Derived.KernelRfl
namespace Go.Proofs.YtfpppmamkmaneaaDoor
/- THE CELL 'sum', in the pinned program and in every row, IS THE sha256 OF THE DUMP (.gsa) THAT YtfpppmamkmaneaaDoorProg.lean LOADS. Nothing in Lean hashes anything: it is a label: what it is worth is what the hold of that sum in a sandbox is worth. -/
noncomputable def Tryd.pinned : Pinned := { name := "ytfpppmamkmaneaadoor", sum := "c073e7de6d31fc13a30e39abb002b156f2af04b99402454afcdee720131495ad", checked := Tryd.checked }
namespace Rows
def none {H : Type} : Left H := { results := [], args := [] }

/- WHAT THE LISTED PACKAGE-LEVEL VARIABLES READ AS WHEN THE CALL BEGINS. Each datum BY PROGRAM (the guide's laid-datum.mjs) off the statement by which the dump's own 'gosem.cut.vars' lays the variable. In a bare row this is a premise. The card (YtfpppmamkmaneaaDoorCards.lean) ties it to the program's text. -/
def laid_oathbook_sha_rounds {H : Type} : DataW H := .agg [.lit (.int .u32 1116352408), .lit (.int .u32 1899447441), .lit (.int .u32 3049323471), .lit (.int .u32 3921009573), .lit (.int .u32 961987163), .lit (.int .u32 1508970993), .lit (.int .u32 2453635748), .lit (.int .u32 2870763221), .lit (.int .u32 3624381080), .lit (.int .u32 310598401), .lit (.int .u32 607225278), .lit (.int .u32 1426881987), .lit (.int .u32 1925078388), .lit (.int .u32 2162078206), .lit (.int .u32 2614888103), .lit (.int .u32 3248222580), .lit (.int .u32 3835390401), .lit (.int .u32 4022224774), .lit (.int .u32 264347078), .lit (.int .u32 604807628), .lit (.int .u32 770255983), .lit (.int .u32 1249150122), .lit (.int .u32 1555081692), .lit (.int .u32 1996064986), .lit (.int .u32 2554220882), .lit (.int .u32 2821834349), .lit (.int .u32 2952996808), .lit (.int .u32 3210313671), .lit (.int .u32 3336571891), .lit (.int .u32 3584528711), .lit (.int .u32 113926993), .lit (.int .u32 338241895), .lit (.int .u32 666307205), .lit (.int .u32 773529912), .lit (.int .u32 1294757372), .lit (.int .u32 1396182291), .lit (.int .u32 1695183700), .lit (.int .u32 1986661051), .lit (.int .u32 2177026350), .lit (.int .u32 2456956037), .lit (.int .u32 2730485921), .lit (.int .u32 2820302411), .lit (.int .u32 3259730800), .lit (.int .u32 3345764771), .lit (.int .u32 3516065817), .lit (.int .u32 3600352804), .lit (.int .u32 4094571909), .lit (.int .u32 275423344), .lit (.int .u32 430227734), .lit (.int .u32 506948616), .lit (.int .u32 659060556), .lit (.int .u32 883997877), .lit (.int .u32 958139571), .lit (.int .u32 1322822218), .lit (.int .u32 1537002063), .lit (.int .u32 1747873779), .lit (.int .u32 1955562222), .lit (.int .u32 2024104815), .lit (.int .u32 2227730452), .lit (.int .u32 2361852424), .lit (.int .u32 2428436474), .lit (.int .u32 2756734187), .lit (.int .u32 3204031479), .lit (.int .u32 3329325298)]
def laid_math_bits_deBruijn32tab {H : Type} : DataW H := .agg [.lit (.int .u8 0), .lit (.int .u8 1), .lit (.int .u8 28), .lit (.int .u8 2), .lit (.int .u8 29), .lit (.int .u8 14), .lit (.int .u8 24), .lit (.int .u8 3), .lit (.int .u8 30), .lit (.int .u8 22), .lit (.int .u8 20), .lit (.int .u8 15), .lit (.int .u8 25), .lit (.int .u8 17), .lit (.int .u8 4), .lit (.int .u8 8), .lit (.int .u8 31), .lit (.int .u8 27), .lit (.int .u8 13), .lit (.int .u8 23), .lit (.int .u8 21), .lit (.int .u8 19), .lit (.int .u8 16), .lit (.int .u8 7), .lit (.int .u8 26), .lit (.int .u8 12), .lit (.int .u8 18), .lit (.int .u8 6), .lit (.int .u8 11), .lit (.int .u8 5), .lit (.int .u8 10), .lit (.int .u8 9)]
def laid_math_bits_deBruijn64tab {H : Type} : DataW H := .agg [.lit (.int .u8 0), .lit (.int .u8 1), .lit (.int .u8 56), .lit (.int .u8 2), .lit (.int .u8 57), .lit (.int .u8 49), .lit (.int .u8 28), .lit (.int .u8 3), .lit (.int .u8 61), .lit (.int .u8 58), .lit (.int .u8 42), .lit (.int .u8 50), .lit (.int .u8 38), .lit (.int .u8 29), .lit (.int .u8 17), .lit (.int .u8 4), .lit (.int .u8 62), .lit (.int .u8 47), .lit (.int .u8 59), .lit (.int .u8 36), .lit (.int .u8 45), .lit (.int .u8 43), .lit (.int .u8 51), .lit (.int .u8 22), .lit (.int .u8 53), .lit (.int .u8 39), .lit (.int .u8 33), .lit (.int .u8 30), .lit (.int .u8 24), .lit (.int .u8 18), .lit (.int .u8 12), .lit (.int .u8 5), .lit (.int .u8 63), .lit (.int .u8 55), .lit (.int .u8 48), .lit (.int .u8 27), .lit (.int .u8 60), .lit (.int .u8 41), .lit (.int .u8 37), .lit (.int .u8 16), .lit (.int .u8 46), .lit (.int .u8 35), .lit (.int .u8 44), .lit (.int .u8 21), .lit (.int .u8 52), .lit (.int .u8 32), .lit (.int .u8 23), .lit (.int .u8 11), .lit (.int .u8 54), .lit (.int .u8 26), .lit (.int .u8 40), .lit (.int .u8 15), .lit (.int .u8 34), .lit (.int .u8 20), .lit (.int .u8 31), .lit (.int .u8 10), .lit (.int .u8 25), .lit (.int .u8 14), .lit (.int .u8 19), .lit (.int .u8 9), .lit (.int .u8 13), .lit (.int .u8 8), .lit (.int .u8 7), .lit (.int .u8 6)]
def laid_errors_errorType {H : Type} : DataW H := .iface "internal/reflectlite.rtype" (.agg [.ptr (.lit (.string [101, 114, 114, 111, 114]))])

/-- 'oathbooklaw1.TreeBinds': WHATEVER THE INPUT: true; the input reads as it did. -/
def treeBindsSpec : ChangeSpec := { name := "treeBinds", fn := fun _ => fun
  | [d1, d2] => { results := [.lit (.bool true)], args := [d1, d2] }
  | _ => none }
def treeBindsRow : OpenClaim := { program := "ytfpppmamkmaneaadoor", sum := "c073e7de6d31fc13a30e39abb002b156f2af04b99402454afcdee720131495ad", func := "oathbook/oathbooklaw1.TreeBinds", spec := "treeBinds", recurses := true, named := ["oathbook/sha.rounds"], apart := false, laid := [("oathbook/sha.rounds", laid_oathbook_sha_rounds)] }
def TreeBindsSaid : Prop := treeBindsRow.holds Tryd.pinned (OpenSpec.ofChange treeBindsSpec)

/-- ITS FALSE NEIGHBOUR: 'it returns false'. Refute it at one input. -/
def treeBindsWrong : ChangeSpec := { name := "treeBinds", fn := fun _ => fun
  | [d1, d2] => { results := [.lit (.bool false)], args := [d1, d2] }
  | _ => none }
def TreeBindsWrongFalsely : Prop := treeBindsRow.holds Tryd.pinned (OpenSpec.ofChange treeBindsWrong)

/-- 'oathbooklaw1.TreeSound': WHATEVER THE INPUT: true; the input reads as it did. -/
def treeSoundSpec : ChangeSpec := { name := "treeSound", fn := fun _ => fun
  | [d1, d2, d3, d4, d5, d6] => { results := [.lit (.bool true)], args := [d1, d2, d3, d4, d5, d6] }
  | _ => none }
def treeSoundRow : OpenClaim := { program := "ytfpppmamkmaneaadoor", sum := "c073e7de6d31fc13a30e39abb002b156f2af04b99402454afcdee720131495ad", func := "oathbook/oathbooklaw1.TreeSound", spec := "treeSound", recurses := true, named := ["oathbook/sha.rounds"], apart := false, laid := [("oathbook/sha.rounds", laid_oathbook_sha_rounds)] }
def TreeSoundSaid : Prop := treeSoundRow.holds Tryd.pinned (OpenSpec.ofChange treeSoundSpec)

/-- ITS FALSE NEIGHBOUR: 'it returns false'. Refute it at one input. -/
def treeSoundWrong : ChangeSpec := { name := "treeSound", fn := fun _ => fun
  | [d1, d2, d3, d4, d5, d6] => { results := [.lit (.bool false)], args := [d1, d2, d3, d4, d5, d6] }
  | _ => none }
def TreeSoundWrongFalsely : Prop := treeSoundRow.holds Tryd.pinned (OpenSpec.ofChange treeSoundWrong)

/-- 'oathbooklaw1.TreeProves': WHATEVER THE INPUT: true; the input reads as it did. -/
def treeProvesSpec : ChangeSpec := { name := "treeProves", fn := fun _ => fun
  | [d1, d2] => { results := [.lit (.bool true)], args := [d1, d2] }
  | _ => none }
def treeProvesRow : OpenClaim := { program := "ytfpppmamkmaneaadoor", sum := "c073e7de6d31fc13a30e39abb002b156f2af04b99402454afcdee720131495ad", func := "oathbook/oathbooklaw1.TreeProves", spec := "treeProves", recurses := true, named := ["oathbook/sha.rounds"], apart := false, laid := [("oathbook/sha.rounds", laid_oathbook_sha_rounds)] }
def TreeProvesSaid : Prop := treeProvesRow.holds Tryd.pinned (OpenSpec.ofChange treeProvesSpec)

/-- ITS FALSE NEIGHBOUR: 'it returns false'. Refute it at one input. -/
def treeProvesWrong : ChangeSpec := { name := "treeProves", fn := fun _ => fun
  | [d1, d2] => { results := [.lit (.bool false)], args := [d1, d2] }
  | _ => none }
def TreeProvesWrongFalsely : Prop := treeProvesRow.holds Tryd.pinned (OpenSpec.ofChange treeProvesWrong)

/-- 'oathbooklaw1.GrowProves': WHATEVER THE INPUT: true; the input reads as it did. -/
def growProvesSpec : ChangeSpec := { name := "growProves", fn := fun _ => fun
  | [d1, d2] => { results := [.lit (.bool true)], args := [d1, d2] }
  | _ => none }
def growProvesRow : OpenClaim := { program := "ytfpppmamkmaneaadoor", sum := "c073e7de6d31fc13a30e39abb002b156f2af04b99402454afcdee720131495ad", func := "oathbook/oathbooklaw1.GrowProves", spec := "growProves", unfollowed := true, recurses := true, named := ["oathbook/sha.rounds"], apart := false, laid := [("oathbook/sha.rounds", laid_oathbook_sha_rounds)] }
def GrowProvesSaid : Prop := growProvesRow.holds Tryd.pinned (OpenSpec.ofChange growProvesSpec)

/-- ITS FALSE NEIGHBOUR: 'it returns false'. Refute it at one input. -/
def growProvesWrong : ChangeSpec := { name := "growProves", fn := fun _ => fun
  | [d1, d2] => { results := [.lit (.bool false)], args := [d1, d2] }
  | _ => none }
def GrowProvesWrongFalsely : Prop := growProvesRow.holds Tryd.pinned (OpenSpec.ofChange growProvesWrong)

/-- 'oathbooklaw1.GrowSound': WHATEVER THE INPUT: true; the input reads as it did. -/
def growSoundSpec : ChangeSpec := { name := "growSound", fn := fun _ => fun
  | [d1, d2, d3, d4] => { results := [.lit (.bool true)], args := [d1, d2, d3, d4] }
  | _ => none }
def growSoundRow : OpenClaim := { program := "ytfpppmamkmaneaadoor", sum := "c073e7de6d31fc13a30e39abb002b156f2af04b99402454afcdee720131495ad", func := "oathbook/oathbooklaw1.GrowSound", spec := "growSound", unfollowed := true, recurses := true, named := ["oathbook/sha.rounds"], apart := false, laid := [("oathbook/sha.rounds", laid_oathbook_sha_rounds)] }
def GrowSoundSaid : Prop := growSoundRow.holds Tryd.pinned (OpenSpec.ofChange growSoundSpec)

/-- ITS FALSE NEIGHBOUR: 'it returns false'. Refute it at one input. -/
def growSoundWrong : ChangeSpec := { name := "growSound", fn := fun _ => fun
  | [d1, d2, d3, d4] => { results := [.lit (.bool false)], args := [d1, d2, d3, d4] }
  | _ => none }
def GrowSoundWrongFalsely : Prop := growSoundRow.holds Tryd.pinned (OpenSpec.ofChange growSoundWrong)

/-- 'oathbooklaw1.PeaksAre': WHATEVER THE INPUT: true; the input reads as it did. -/
def peaksAreSpec : ChangeSpec := { name := "peaksAre", fn := fun _ => fun
  | [d] => { results := [.lit (.bool true)], args := [d] }
  | _ => none }
def peaksAreRow : OpenClaim := { program := "ytfpppmamkmaneaadoor", sum := "c073e7de6d31fc13a30e39abb002b156f2af04b99402454afcdee720131495ad", func := "oathbook/oathbooklaw1.PeaksAre", spec := "peaksAre", recurses := true, named := ["math/bits.deBruijn32tab", "math/bits.deBruijn64tab", "oathbook/sha.rounds"], apart := false, laid := [("math/bits.deBruijn32tab", laid_math_bits_deBruijn32tab), ("math/bits.deBruijn64tab", laid_math_bits_deBruijn64tab), ("oathbook/sha.rounds", laid_oathbook_sha_rounds)] }
def PeaksAreSaid : Prop := peaksAreRow.holds Tryd.pinned (OpenSpec.ofChange peaksAreSpec)

/-- ITS FALSE NEIGHBOUR: 'it returns false'. Refute it at one input. -/
def peaksAreWrong : ChangeSpec := { name := "peaksAre", fn := fun _ => fun
  | [d] => { results := [.lit (.bool false)], args := [d] }
  | _ => none }
def PeaksAreWrongFalsely : Prop := peaksAreRow.holds Tryd.pinned (OpenSpec.ofChange peaksAreWrong)

/-- 'oathbooklaw1.PeaksGrow': WHATEVER THE INPUT: true; the input reads as it did. -/
def peaksGrowSpec : ChangeSpec := { name := "peaksGrow", fn := fun _ => fun
  | [d] => { results := [.lit (.bool true)], args := [d] }
  | _ => none }
def peaksGrowRow : OpenClaim := { program := "ytfpppmamkmaneaadoor", sum := "c073e7de6d31fc13a30e39abb002b156f2af04b99402454afcdee720131495ad", func := "oathbook/oathbooklaw1.PeaksGrow", spec := "peaksGrow", unfollowed := true, recurses := true, named := ["math/bits.deBruijn32tab", "math/bits.deBruijn64tab", "oathbook/sha.rounds"], apart := false, laid := [("math/bits.deBruijn32tab", laid_math_bits_deBruijn32tab), ("math/bits.deBruijn64tab", laid_math_bits_deBruijn64tab), ("oathbook/sha.rounds", laid_oathbook_sha_rounds)] }
def PeaksGrowSaid : Prop := peaksGrowRow.holds Tryd.pinned (OpenSpec.ofChange peaksGrowSpec)

/-- ITS FALSE NEIGHBOUR: 'it returns false'. Refute it at one input. -/
def peaksGrowWrong : ChangeSpec := { name := "peaksGrow", fn := fun _ => fun
  | [d] => { results := [.lit (.bool false)], args := [d] }
  | _ => none }
def PeaksGrowWrongFalsely : Prop := peaksGrowRow.holds Tryd.pinned (OpenSpec.ofChange peaksGrowWrong)

/-- 'oathbooklaw1.TreeRoots': WHATEVER THE INPUT: true; the input reads as it did. -/
def treeRootsSpec : ChangeSpec := { name := "treeRoots", fn := fun _ => fun
  | [d1, d2] => { results := [.lit (.bool true)], args := [d1, d2] }
  | _ => none }
def treeRootsRow : OpenClaim := { program := "ytfpppmamkmaneaadoor", sum := "c073e7de6d31fc13a30e39abb002b156f2af04b99402454afcdee720131495ad", func := "oathbook/oathbooklaw1.TreeRoots", spec := "treeRoots", inPlace := ["internal/reflectlite.ValueOf", "(internal/reflectlite.Value).Type", "(internal/reflectlite.Value).IsNil", "internal/reflectlite.TypeOf", "(internal/reflectlite.Value).Elem", "(internal/reflectlite.Value).Set"], unfollowed := true, recurses := true, named := ["oathbook/sha.rounds", "errors.errorType"], apart := false, laid := [("oathbook/sha.rounds", laid_oathbook_sha_rounds), ("errors.errorType", laid_errors_errorType)] }
def TreeRootsSaid : Prop := treeRootsRow.holds Tryd.pinned (OpenSpec.ofChange treeRootsSpec)

/-- ITS FALSE NEIGHBOUR: 'it returns false'. Refute it at one input. -/
def treeRootsWrong : ChangeSpec := { name := "treeRoots", fn := fun _ => fun
  | [d1, d2] => { results := [.lit (.bool false)], args := [d1, d2] }
  | _ => none }
def TreeRootsWrongFalsely : Prop := treeRootsRow.holds Tryd.pinned (OpenSpec.ofChange treeRootsWrong)

/-- 'oathbooklaw1.TreePaths': WHATEVER THE INPUT: true; the input reads as it did. -/
def treePathsSpec : ChangeSpec := { name := "treePaths", fn := fun _ => fun
  | [d1, d2, d3, d4, d5] => { results := [.lit (.bool true)], args := [d1, d2, d3, d4, d5] }
  | _ => none }
def treePathsRow : OpenClaim := { program := "ytfpppmamkmaneaadoor", sum := "c073e7de6d31fc13a30e39abb002b156f2af04b99402454afcdee720131495ad", func := "oathbook/oathbooklaw1.TreePaths", spec := "treePaths", inPlace := ["internal/reflectlite.ValueOf", "(internal/reflectlite.Value).Type", "(internal/reflectlite.Value).IsNil", "internal/reflectlite.TypeOf", "(internal/reflectlite.Value).Elem", "(internal/reflectlite.Value).Set"], unfollowed := true, recurses := true, named := ["oathbook/sha.rounds", "errors.errorType"], apart := false, laid := [("oathbook/sha.rounds", laid_oathbook_sha_rounds), ("errors.errorType", laid_errors_errorType)] }
def TreePathsSaid : Prop := treePathsRow.holds Tryd.pinned (OpenSpec.ofChange treePathsSpec)

/-- ITS FALSE NEIGHBOUR: 'it returns false'. Refute it at one input. -/
def treePathsWrong : ChangeSpec := { name := "treePaths", fn := fun _ => fun
  | [d1, d2, d3, d4, d5] => { results := [.lit (.bool false)], args := [d1, d2, d3, d4, d5] }
  | _ => none }
def TreePathsWrongFalsely : Prop := treePathsRow.holds Tryd.pinned (OpenSpec.ofChange treePathsWrong)

/-- 'oathbooklaw1.PeaksTell': WHATEVER THE INPUT: true; the input reads as it did. -/
def peaksTellSpec : ChangeSpec := { name := "peaksTell", fn := fun _ => fun
  | [d1, d2, d3] => { results := [.lit (.bool true)], args := [d1, d2, d3] }
  | _ => none }
def peaksTellRow : OpenClaim := { program := "ytfpppmamkmaneaadoor", sum := "c073e7de6d31fc13a30e39abb002b156f2af04b99402454afcdee720131495ad", func := "oathbook/oathbooklaw1.PeaksTell", spec := "peaksTell", inPlace := ["internal/reflectlite.ValueOf", "(internal/reflectlite.Value).Type", "(internal/reflectlite.Value).IsNil", "internal/reflectlite.TypeOf", "(internal/reflectlite.Value).Elem", "(internal/reflectlite.Value).Set"], unfollowed := true, recurses := true, named := ["math/bits.deBruijn32tab", "math/bits.deBruijn64tab", "oathbook/sha.rounds", "errors.errorType"], apart := false, laid := [("math/bits.deBruijn32tab", laid_math_bits_deBruijn32tab), ("math/bits.deBruijn64tab", laid_math_bits_deBruijn64tab), ("oathbook/sha.rounds", laid_oathbook_sha_rounds), ("errors.errorType", laid_errors_errorType)] }
def PeaksTellSaid : Prop := peaksTellRow.holds Tryd.pinned (OpenSpec.ofChange peaksTellSpec)

/-- ITS FALSE NEIGHBOUR: 'it returns false'. Refute it at one input. -/
def peaksTellWrong : ChangeSpec := { name := "peaksTell", fn := fun _ => fun
  | [d1, d2, d3] => { results := [.lit (.bool false)], args := [d1, d2, d3] }
  | _ => none }
def PeaksTellWrongFalsely : Prop := peaksTellRow.holds Tryd.pinned (OpenSpec.ofChange peaksTellWrong)

/-- 'oathbooklaw1.GrowTells': WHATEVER THE INPUT: true; the input reads as it did. -/
def growTellsSpec : ChangeSpec := { name := "growTells", fn := fun _ => fun
  | [d1, d2, d3, d4, d5, d6] => { results := [.lit (.bool true)], args := [d1, d2, d3, d4, d5, d6] }
  | _ => none }
def growTellsRow : OpenClaim := { program := "ytfpppmamkmaneaadoor", sum := "c073e7de6d31fc13a30e39abb002b156f2af04b99402454afcdee720131495ad", func := "oathbook/oathbooklaw1.GrowTells", spec := "growTells", inPlace := ["internal/reflectlite.ValueOf", "(internal/reflectlite.Value).Type", "(internal/reflectlite.Value).IsNil", "internal/reflectlite.TypeOf", "(internal/reflectlite.Value).Elem", "(internal/reflectlite.Value).Set"], unfollowed := true, recurses := true, named := ["oathbook/sha.rounds", "errors.errorType"], apart := false, laid := [("oathbook/sha.rounds", laid_oathbook_sha_rounds), ("errors.errorType", laid_errors_errorType)] }
def GrowTellsSaid : Prop := growTellsRow.holds Tryd.pinned (OpenSpec.ofChange growTellsSpec)

/-- ITS FALSE NEIGHBOUR: 'it returns false'. Refute it at one input. -/
def growTellsWrong : ChangeSpec := { name := "growTells", fn := fun _ => fun
  | [d1, d2, d3, d4, d5, d6] => { results := [.lit (.bool false)], args := [d1, d2, d3, d4, d5, d6] }
  | _ => none }
def GrowTellsWrongFalsely : Prop := growTellsRow.holds Tryd.pinned (OpenSpec.ofChange growTellsWrong)

/-- 'oathbooklaw1.WotsTells': WHATEVER THE INPUT: true; the input reads as it did. -/
def wotsTellsSpec : ChangeSpec := { name := "wotsTells", fn := fun _ => fun
  | [d1, d2, d3] => { results := [.lit (.bool true)], args := [d1, d2, d3] }
  | _ => none }
def wotsTellsRow : OpenClaim := { program := "ytfpppmamkmaneaadoor", sum := "c073e7de6d31fc13a30e39abb002b156f2af04b99402454afcdee720131495ad", func := "oathbook/oathbooklaw1.WotsTells", spec := "wotsTells", inPlace := ["internal/reflectlite.ValueOf", "(internal/reflectlite.Value).Type", "(internal/reflectlite.Value).IsNil", "internal/reflectlite.TypeOf", "(internal/reflectlite.Value).Elem", "(internal/reflectlite.Value).Set"], unfollowed := true, recurses := true, named := ["oathbook/sha.rounds", "errors.errorType"], apart := false, laid := [("oathbook/sha.rounds", laid_oathbook_sha_rounds), ("errors.errorType", laid_errors_errorType)] }
def WotsTellsSaid : Prop := wotsTellsRow.holds Tryd.pinned (OpenSpec.ofChange wotsTellsSpec)

/-- ITS FALSE NEIGHBOUR: 'it returns false'. Refute it at one input. -/
def wotsTellsWrong : ChangeSpec := { name := "wotsTells", fn := fun _ => fun
  | [d1, d2, d3] => { results := [.lit (.bool false)], args := [d1, d2, d3] }
  | _ => none }
def WotsTellsWrongFalsely : Prop := wotsTellsRow.holds Tryd.pinned (OpenSpec.ofChange wotsTellsWrong)

/- THE SECOND FORM. 'bulk': how many values and letters a reading holds, each counted each time it is reached (what is shared counts as often as it is met; a slice's spare places count too). A statement '..UptoSaid' is the law's where the arguments, and the package variables that the reading takes, are together of bulk at most 1048576: NARROWER than '..Said'. Prove '..Said' where nothing that the law and all that it calls make is longer than what came in: it says more and counts as full. Else prove '..UptoSaid'. A law counts once. -/
mutual
def uptoBulk {H : Type} : DataW H → Nat
  | .lit (.string bytes) => bytes.length + 1
  | .lit _ => 1
  | .nil => 1
  | .ptr d => uptoBulk d + 1
  | .slice elems spare => uptoBulkAll elems + uptoBulkAll spare + 1
  | .agg parts => uptoBulkAll parts + 1
  | .iface _ d => uptoBulk d + 1
  | .map entries => uptoBulkEntries entries + 1
  | .held _ => 1
def uptoBulkAll {H : Type} : List (DataW H) → Nat
  | [] => 0
  | d :: r => uptoBulk d + uptoBulkAll r
def uptoBulkEntries {H : Type} : List (Lit × DataW H) → Nat
  | [] => 0
  | x :: r => uptoBulkEntry x + uptoBulkEntries r
def uptoBulkEntry {H : Type} : Lit × DataW H → Nat
  | (.string bytes, d) => bytes.length + uptoBulk d + 1
  | (_, d) => uptoBulk d + 1
 end
def uptoSmall : (H : Type) → List (DataW H) → Bool := fun _ ds => decide (uptoBulkAll ds ≤ 1048576)
def OpenSpec.upto (s : _root_.Go.ChangeSpec) : _root_.Go.OpenSpec := { _root_.Go.OpenSpec.ofChange s with cond := some uptoSmall }

/-- 'oathbooklaw1.TreeBinds', WHERE WHAT IT READS IS OF BULK AT MOST 1048576: true; the input reads as it did. -/
def treeBindsUptoRow : OpenClaim := { program := "ytfpppmamkmaneaadoor", sum := "c073e7de6d31fc13a30e39abb002b156f2af04b99402454afcdee720131495ad", func := "oathbook/oathbooklaw1.TreeBinds", spec := "treeBinds", recurses := true, named := ["oathbook/sha.rounds"], apart := false, laid := [("oathbook/sha.rounds", laid_oathbook_sha_rounds)], narrowed := true }
def TreeBindsUptoSaid : Prop := treeBindsUptoRow.holds Tryd.pinned (OpenSpec.upto treeBindsSpec)

/-- 'oathbooklaw1.TreeSound', WHERE WHAT IT READS IS OF BULK AT MOST 1048576: true; the input reads as it did. -/
def treeSoundUptoRow : OpenClaim := { program := "ytfpppmamkmaneaadoor", sum := "c073e7de6d31fc13a30e39abb002b156f2af04b99402454afcdee720131495ad", func := "oathbook/oathbooklaw1.TreeSound", spec := "treeSound", recurses := true, named := ["oathbook/sha.rounds"], apart := false, laid := [("oathbook/sha.rounds", laid_oathbook_sha_rounds)], narrowed := true }
def TreeSoundUptoSaid : Prop := treeSoundUptoRow.holds Tryd.pinned (OpenSpec.upto treeSoundSpec)

/-- 'oathbooklaw1.TreeProves', WHERE WHAT IT READS IS OF BULK AT MOST 1048576: true; the input reads as it did. -/
def treeProvesUptoRow : OpenClaim := { program := "ytfpppmamkmaneaadoor", sum := "c073e7de6d31fc13a30e39abb002b156f2af04b99402454afcdee720131495ad", func := "oathbook/oathbooklaw1.TreeProves", spec := "treeProves", recurses := true, named := ["oathbook/sha.rounds"], apart := false, laid := [("oathbook/sha.rounds", laid_oathbook_sha_rounds)], narrowed := true }
def TreeProvesUptoSaid : Prop := treeProvesUptoRow.holds Tryd.pinned (OpenSpec.upto treeProvesSpec)

/-- 'oathbooklaw1.GrowProves', WHERE WHAT IT READS IS OF BULK AT MOST 1048576: true; the input reads as it did. -/
def growProvesUptoRow : OpenClaim := { program := "ytfpppmamkmaneaadoor", sum := "c073e7de6d31fc13a30e39abb002b156f2af04b99402454afcdee720131495ad", func := "oathbook/oathbooklaw1.GrowProves", spec := "growProves", unfollowed := true, recurses := true, named := ["oathbook/sha.rounds"], apart := false, laid := [("oathbook/sha.rounds", laid_oathbook_sha_rounds)], narrowed := true }
def GrowProvesUptoSaid : Prop := growProvesUptoRow.holds Tryd.pinned (OpenSpec.upto growProvesSpec)

/-- 'oathbooklaw1.GrowSound', WHERE WHAT IT READS IS OF BULK AT MOST 1048576: true; the input reads as it did. -/
def growSoundUptoRow : OpenClaim := { program := "ytfpppmamkmaneaadoor", sum := "c073e7de6d31fc13a30e39abb002b156f2af04b99402454afcdee720131495ad", func := "oathbook/oathbooklaw1.GrowSound", spec := "growSound", unfollowed := true, recurses := true, named := ["oathbook/sha.rounds"], apart := false, laid := [("oathbook/sha.rounds", laid_oathbook_sha_rounds)], narrowed := true }
def GrowSoundUptoSaid : Prop := growSoundUptoRow.holds Tryd.pinned (OpenSpec.upto growSoundSpec)

/-- 'oathbooklaw1.PeaksAre', WHERE WHAT IT READS IS OF BULK AT MOST 1048576: true; the input reads as it did. -/
def peaksAreUptoRow : OpenClaim := { program := "ytfpppmamkmaneaadoor", sum := "c073e7de6d31fc13a30e39abb002b156f2af04b99402454afcdee720131495ad", func := "oathbook/oathbooklaw1.PeaksAre", spec := "peaksAre", recurses := true, named := ["math/bits.deBruijn32tab", "math/bits.deBruijn64tab", "oathbook/sha.rounds"], apart := false, laid := [("math/bits.deBruijn32tab", laid_math_bits_deBruijn32tab), ("math/bits.deBruijn64tab", laid_math_bits_deBruijn64tab), ("oathbook/sha.rounds", laid_oathbook_sha_rounds)], narrowed := true }
def PeaksAreUptoSaid : Prop := peaksAreUptoRow.holds Tryd.pinned (OpenSpec.upto peaksAreSpec)

/-- 'oathbooklaw1.PeaksGrow', WHERE WHAT IT READS IS OF BULK AT MOST 1048576: true; the input reads as it did. -/
def peaksGrowUptoRow : OpenClaim := { program := "ytfpppmamkmaneaadoor", sum := "c073e7de6d31fc13a30e39abb002b156f2af04b99402454afcdee720131495ad", func := "oathbook/oathbooklaw1.PeaksGrow", spec := "peaksGrow", unfollowed := true, recurses := true, named := ["math/bits.deBruijn32tab", "math/bits.deBruijn64tab", "oathbook/sha.rounds"], apart := false, laid := [("math/bits.deBruijn32tab", laid_math_bits_deBruijn32tab), ("math/bits.deBruijn64tab", laid_math_bits_deBruijn64tab), ("oathbook/sha.rounds", laid_oathbook_sha_rounds)], narrowed := true }
def PeaksGrowUptoSaid : Prop := peaksGrowUptoRow.holds Tryd.pinned (OpenSpec.upto peaksGrowSpec)

/-- 'oathbooklaw1.TreeRoots', WHERE WHAT IT READS IS OF BULK AT MOST 1048576: true; the input reads as it did. -/
def treeRootsUptoRow : OpenClaim := { program := "ytfpppmamkmaneaadoor", sum := "c073e7de6d31fc13a30e39abb002b156f2af04b99402454afcdee720131495ad", func := "oathbook/oathbooklaw1.TreeRoots", spec := "treeRoots", inPlace := ["internal/reflectlite.ValueOf", "(internal/reflectlite.Value).Type", "(internal/reflectlite.Value).IsNil", "internal/reflectlite.TypeOf", "(internal/reflectlite.Value).Elem", "(internal/reflectlite.Value).Set"], unfollowed := true, recurses := true, named := ["oathbook/sha.rounds", "errors.errorType"], apart := false, laid := [("oathbook/sha.rounds", laid_oathbook_sha_rounds), ("errors.errorType", laid_errors_errorType)], narrowed := true }
def TreeRootsUptoSaid : Prop := treeRootsUptoRow.holds Tryd.pinned (OpenSpec.upto treeRootsSpec)

/-- 'oathbooklaw1.TreePaths', WHERE WHAT IT READS IS OF BULK AT MOST 1048576: true; the input reads as it did. -/
def treePathsUptoRow : OpenClaim := { program := "ytfpppmamkmaneaadoor", sum := "c073e7de6d31fc13a30e39abb002b156f2af04b99402454afcdee720131495ad", func := "oathbook/oathbooklaw1.TreePaths", spec := "treePaths", inPlace := ["internal/reflectlite.ValueOf", "(internal/reflectlite.Value).Type", "(internal/reflectlite.Value).IsNil", "internal/reflectlite.TypeOf", "(internal/reflectlite.Value).Elem", "(internal/reflectlite.Value).Set"], unfollowed := true, recurses := true, named := ["oathbook/sha.rounds", "errors.errorType"], apart := false, laid := [("oathbook/sha.rounds", laid_oathbook_sha_rounds), ("errors.errorType", laid_errors_errorType)], narrowed := true }
def TreePathsUptoSaid : Prop := treePathsUptoRow.holds Tryd.pinned (OpenSpec.upto treePathsSpec)

/-- 'oathbooklaw1.PeaksTell', WHERE WHAT IT READS IS OF BULK AT MOST 1048576: true; the input reads as it did. -/
def peaksTellUptoRow : OpenClaim := { program := "ytfpppmamkmaneaadoor", sum := "c073e7de6d31fc13a30e39abb002b156f2af04b99402454afcdee720131495ad", func := "oathbook/oathbooklaw1.PeaksTell", spec := "peaksTell", inPlace := ["internal/reflectlite.ValueOf", "(internal/reflectlite.Value).Type", "(internal/reflectlite.Value).IsNil", "internal/reflectlite.TypeOf", "(internal/reflectlite.Value).Elem", "(internal/reflectlite.Value).Set"], unfollowed := true, recurses := true, named := ["math/bits.deBruijn32tab", "math/bits.deBruijn64tab", "oathbook/sha.rounds", "errors.errorType"], apart := false, laid := [("math/bits.deBruijn32tab", laid_math_bits_deBruijn32tab), ("math/bits.deBruijn64tab", laid_math_bits_deBruijn64tab), ("oathbook/sha.rounds", laid_oathbook_sha_rounds), ("errors.errorType", laid_errors_errorType)], narrowed := true }
def PeaksTellUptoSaid : Prop := peaksTellUptoRow.holds Tryd.pinned (OpenSpec.upto peaksTellSpec)

/-- 'oathbooklaw1.GrowTells', WHERE WHAT IT READS IS OF BULK AT MOST 1048576: true; the input reads as it did. -/
def growTellsUptoRow : OpenClaim := { program := "ytfpppmamkmaneaadoor", sum := "c073e7de6d31fc13a30e39abb002b156f2af04b99402454afcdee720131495ad", func := "oathbook/oathbooklaw1.GrowTells", spec := "growTells", inPlace := ["internal/reflectlite.ValueOf", "(internal/reflectlite.Value).Type", "(internal/reflectlite.Value).IsNil", "internal/reflectlite.TypeOf", "(internal/reflectlite.Value).Elem", "(internal/reflectlite.Value).Set"], unfollowed := true, recurses := true, named := ["oathbook/sha.rounds", "errors.errorType"], apart := false, laid := [("oathbook/sha.rounds", laid_oathbook_sha_rounds), ("errors.errorType", laid_errors_errorType)], narrowed := true }
def GrowTellsUptoSaid : Prop := growTellsUptoRow.holds Tryd.pinned (OpenSpec.upto growTellsSpec)

/-- 'oathbooklaw1.WotsTells', WHERE WHAT IT READS IS OF BULK AT MOST 1048576: true; the input reads as it did. -/
def wotsTellsUptoRow : OpenClaim := { program := "ytfpppmamkmaneaadoor", sum := "c073e7de6d31fc13a30e39abb002b156f2af04b99402454afcdee720131495ad", func := "oathbook/oathbooklaw1.WotsTells", spec := "wotsTells", inPlace := ["internal/reflectlite.ValueOf", "(internal/reflectlite.Value).Type", "(internal/reflectlite.Value).IsNil", "internal/reflectlite.TypeOf", "(internal/reflectlite.Value).Elem", "(internal/reflectlite.Value).Set"], unfollowed := true, recurses := true, named := ["oathbook/sha.rounds", "errors.errorType"], apart := false, laid := [("oathbook/sha.rounds", laid_oathbook_sha_rounds), ("errors.errorType", laid_errors_errorType)], narrowed := true }
def WotsTellsUptoSaid : Prop := wotsTellsUptoRow.holds Tryd.pinned (OpenSpec.upto wotsTellsSpec)

end Rows
end Go.Proofs.YtfpppmamkmaneaaDoor
