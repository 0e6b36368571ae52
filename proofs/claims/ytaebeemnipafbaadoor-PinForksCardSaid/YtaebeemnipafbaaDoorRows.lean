/-
  NARROWER THAN 'FOR EVERY INPUT', by the rows' own cells (each row's printed sentence says how): PinForks: laid · LogOne: laid · PinHonest: laid · LogTells: laid · LogGrows: laid · TopBook: laid · TopDiary: laid · TopKey: laid.
  DERIVED. THE GIVEN ROWS OF THIS SEAT. 8 by the template 'for every input the law returns true; each argument reads behind the call as it read before'; 0 by the template 'total and deterministic' (their statements: YtaebeemnipafbaaDoorTotals.lean).
  GIVEN WITH THE SEED: the statements are not yours to turn. If you find one false, say at which input.
  Laid BY PROGRAM, IN A SANDBOX (cutbox-rows.mjs): the forced cells as the released guide's own fill.sh prints them over the translation ec1b61bff5135e09… (all of the seat's roots in one cut). By AI agents, Wed Nov 11 2026. No macro, syntax, notation, axiom, sorry.
-/
import Derived.Test.YtaebeemnipafbaaDoorChecked
import GoSem.Claim
import GoSem.ClaimJoined
import GoSem.ClaimMapViews
import Derived.JoinedTies
import Derived.KernelRfl
namespace Go.Proofs.YtaebeemnipafbaaDoor
/- THE CELL 'sum', in the pinned program and in every row, IS THE sha256 OF THE DUMP (.gsa) THAT YtaebeemnipafbaaDoorProg.lean LOADS. Nothing in Lean hashes anything: it is a label: what it is worth is what the hold of that sum in a sandbox is worth. -/
noncomputable def Tryd.pinned : Pinned := { name := "ytaebeemnipafbaadoor", sum := "ec1b61bff5135e09449c04367cc0945278595716541838813e4c0aaaa87705c1", checked := Tryd.checked }
namespace Rows
def none {H : Type} : Left H := { results := [], args := [] }

/- WHAT THE LISTED PACKAGE-LEVEL VARIABLES READ AS WHEN THE CALL BEGINS. Each datum BY PROGRAM (the guide's laid-datum.mjs) off the statement by which the dump's own 'gosem.cut.vars' lays the variable. In a bare row this is a premise. The card (YtaebeemnipafbaaDoorCards.lean) ties it to the program's text. -/
def laid_oathbook_sha_rounds {H : Type} : DataW H := .agg [.lit (.int .u32 1116352408), .lit (.int .u32 1899447441), .lit (.int .u32 3049323471), .lit (.int .u32 3921009573), .lit (.int .u32 961987163), .lit (.int .u32 1508970993), .lit (.int .u32 2453635748), .lit (.int .u32 2870763221), .lit (.int .u32 3624381080), .lit (.int .u32 310598401), .lit (.int .u32 607225278), .lit (.int .u32 1426881987), .lit (.int .u32 1925078388), .lit (.int .u32 2162078206), .lit (.int .u32 2614888103), .lit (.int .u32 3248222580), .lit (.int .u32 3835390401), .lit (.int .u32 4022224774), .lit (.int .u32 264347078), .lit (.int .u32 604807628), .lit (.int .u32 770255983), .lit (.int .u32 1249150122), .lit (.int .u32 1555081692), .lit (.int .u32 1996064986), .lit (.int .u32 2554220882), .lit (.int .u32 2821834349), .lit (.int .u32 2952996808), .lit (.int .u32 3210313671), .lit (.int .u32 3336571891), .lit (.int .u32 3584528711), .lit (.int .u32 113926993), .lit (.int .u32 338241895), .lit (.int .u32 666307205), .lit (.int .u32 773529912), .lit (.int .u32 1294757372), .lit (.int .u32 1396182291), .lit (.int .u32 1695183700), .lit (.int .u32 1986661051), .lit (.int .u32 2177026350), .lit (.int .u32 2456956037), .lit (.int .u32 2730485921), .lit (.int .u32 2820302411), .lit (.int .u32 3259730800), .lit (.int .u32 3345764771), .lit (.int .u32 3516065817), .lit (.int .u32 3600352804), .lit (.int .u32 4094571909), .lit (.int .u32 275423344), .lit (.int .u32 430227734), .lit (.int .u32 506948616), .lit (.int .u32 659060556), .lit (.int .u32 883997877), .lit (.int .u32 958139571), .lit (.int .u32 1322822218), .lit (.int .u32 1537002063), .lit (.int .u32 1747873779), .lit (.int .u32 1955562222), .lit (.int .u32 2024104815), .lit (.int .u32 2227730452), .lit (.int .u32 2361852424), .lit (.int .u32 2428436474), .lit (.int .u32 2756734187), .lit (.int .u32 3204031479), .lit (.int .u32 3329325298)]

/-- 'oathbooklaw3.PinForks': WHATEVER THE INPUT: true; the input reads as it did. -/
def pinForksSpec : ChangeSpec := { name := "pinForks", fn := fun _ => fun
  | [d1, d2, d3] => { results := [.lit (.bool true)], args := [d1, d2, d3] }
  | _ => none }
def pinForksRow : OpenClaim := { program := "ytaebeemnipafbaadoor", sum := "ec1b61bff5135e09449c04367cc0945278595716541838813e4c0aaaa87705c1", func := "oathbook/oathbooklaw3.PinForks", spec := "pinForks", unfollowed := true, recurses := true, named := ["oathbook/sha.rounds"], apart := false, laid := [("oathbook/sha.rounds", laid_oathbook_sha_rounds)] }
def PinForksSaid : Prop := pinForksRow.holds Tryd.pinned (OpenSpec.ofChange pinForksSpec)

/-- ITS FALSE NEIGHBOUR: 'it returns false'. Refute it at one input. -/
def pinForksWrong : ChangeSpec := { name := "pinForks", fn := fun _ => fun
  | [d1, d2, d3] => { results := [.lit (.bool false)], args := [d1, d2, d3] }
  | _ => none }
def PinForksWrongFalsely : Prop := pinForksRow.holds Tryd.pinned (OpenSpec.ofChange pinForksWrong)

/-- 'oathbooklaw3.LogOne': WHATEVER THE INPUT: true; the input reads as it did. -/
def logOneSpec : ChangeSpec := { name := "logOne", fn := fun _ => fun
  | [d1, d2, d3, d4] => { results := [.lit (.bool true)], args := [d1, d2, d3, d4] }
  | _ => none }
def logOneRow : OpenClaim := { program := "ytaebeemnipafbaadoor", sum := "ec1b61bff5135e09449c04367cc0945278595716541838813e4c0aaaa87705c1", func := "oathbook/oathbooklaw3.LogOne", spec := "logOne", unfollowed := true, recurses := true, named := ["oathbook/sha.rounds"], apart := false, laid := [("oathbook/sha.rounds", laid_oathbook_sha_rounds)] }
def LogOneSaid : Prop := logOneRow.holds Tryd.pinned (OpenSpec.ofChange logOneSpec)

/-- ITS FALSE NEIGHBOUR: 'it returns false'. Refute it at one input. -/
def logOneWrong : ChangeSpec := { name := "logOne", fn := fun _ => fun
  | [d1, d2, d3, d4] => { results := [.lit (.bool false)], args := [d1, d2, d3, d4] }
  | _ => none }
def LogOneWrongFalsely : Prop := logOneRow.holds Tryd.pinned (OpenSpec.ofChange logOneWrong)

/-- 'oathbooklaw3.PinHonest': WHATEVER THE INPUT: true; the input reads as it did. -/
def pinHonestSpec : ChangeSpec := { name := "pinHonest", fn := fun _ => fun
  | [d1, d2, d3] => { results := [.lit (.bool true)], args := [d1, d2, d3] }
  | _ => none }
def pinHonestRow : OpenClaim := { program := "ytaebeemnipafbaadoor", sum := "ec1b61bff5135e09449c04367cc0945278595716541838813e4c0aaaa87705c1", func := "oathbook/oathbooklaw3.PinHonest", spec := "pinHonest", unfollowed := true, recurses := true, named := ["oathbook/sha.rounds"], apart := false, laid := [("oathbook/sha.rounds", laid_oathbook_sha_rounds)] }
def PinHonestSaid : Prop := pinHonestRow.holds Tryd.pinned (OpenSpec.ofChange pinHonestSpec)

/-- ITS FALSE NEIGHBOUR: 'it returns false'. Refute it at one input. -/
def pinHonestWrong : ChangeSpec := { name := "pinHonest", fn := fun _ => fun
  | [d1, d2, d3] => { results := [.lit (.bool false)], args := [d1, d2, d3] }
  | _ => none }
def PinHonestWrongFalsely : Prop := pinHonestRow.holds Tryd.pinned (OpenSpec.ofChange pinHonestWrong)

/-- 'oathbooklaw3.LogTells': WHATEVER THE INPUT: true; the input reads as it did. -/
def logTellsSpec : ChangeSpec := { name := "logTells", fn := fun _ => fun
  | [d1, d2, d3] => { results := [.lit (.bool true)], args := [d1, d2, d3] }
  | _ => none }
def logTellsRow : OpenClaim := { program := "ytaebeemnipafbaadoor", sum := "ec1b61bff5135e09449c04367cc0945278595716541838813e4c0aaaa87705c1", func := "oathbook/oathbooklaw3.LogTells", spec := "logTells", unfollowed := true, recurses := true, named := ["oathbook/sha.rounds"], apart := false, laid := [("oathbook/sha.rounds", laid_oathbook_sha_rounds)] }
def LogTellsSaid : Prop := logTellsRow.holds Tryd.pinned (OpenSpec.ofChange logTellsSpec)

/-- ITS FALSE NEIGHBOUR: 'it returns false'. Refute it at one input. -/
def logTellsWrong : ChangeSpec := { name := "logTells", fn := fun _ => fun
  | [d1, d2, d3] => { results := [.lit (.bool false)], args := [d1, d2, d3] }
  | _ => none }
def LogTellsWrongFalsely : Prop := logTellsRow.holds Tryd.pinned (OpenSpec.ofChange logTellsWrong)

/-- 'oathbooklaw3.LogGrows': WHATEVER THE INPUT: true; the input reads as it did. -/
def logGrowsSpec : ChangeSpec := { name := "logGrows", fn := fun _ => fun
  | [d1, d2, d3] => { results := [.lit (.bool true)], args := [d1, d2, d3] }
  | _ => none }
def logGrowsRow : OpenClaim := { program := "ytaebeemnipafbaadoor", sum := "ec1b61bff5135e09449c04367cc0945278595716541838813e4c0aaaa87705c1", func := "oathbook/oathbooklaw3.LogGrows", spec := "logGrows", unfollowed := true, recurses := true, named := ["oathbook/sha.rounds"], apart := false, laid := [("oathbook/sha.rounds", laid_oathbook_sha_rounds)] }
def LogGrowsSaid : Prop := logGrowsRow.holds Tryd.pinned (OpenSpec.ofChange logGrowsSpec)

/-- ITS FALSE NEIGHBOUR: 'it returns false'. Refute it at one input. -/
def logGrowsWrong : ChangeSpec := { name := "logGrows", fn := fun _ => fun
  | [d1, d2, d3] => { results := [.lit (.bool false)], args := [d1, d2, d3] }
  | _ => none }
def LogGrowsWrongFalsely : Prop := logGrowsRow.holds Tryd.pinned (OpenSpec.ofChange logGrowsWrong)

/-- 'oathbooktop.TopBook': WHATEVER THE INPUT: true; the input reads as it did. -/
def topBookSpec : ChangeSpec := { name := "topBook", fn := fun _ => fun
  | [d1, d2, d3, d4] => { results := [.lit (.bool true)], args := [d1, d2, d3, d4] }
  | _ => none }
def topBookRow : OpenClaim := { program := "ytaebeemnipafbaadoor", sum := "ec1b61bff5135e09449c04367cc0945278595716541838813e4c0aaaa87705c1", func := "oathbook/oathbooktop.TopBook", spec := "topBook", inPlace := ["internal/bytealg.abigen_runtime_cmpstring"], unfollowed := true, recurses := true, named := ["oathbook/sha.rounds"], apart := false, laid := [("oathbook/sha.rounds", laid_oathbook_sha_rounds)] }
def TopBookSaid : Prop := topBookRow.holds Tryd.pinned (OpenSpec.ofChange topBookSpec)

/-- ITS FALSE NEIGHBOUR: 'it returns false'. Refute it at one input. -/
def topBookWrong : ChangeSpec := { name := "topBook", fn := fun _ => fun
  | [d1, d2, d3, d4] => { results := [.lit (.bool false)], args := [d1, d2, d3, d4] }
  | _ => none }
def TopBookWrongFalsely : Prop := topBookRow.holds Tryd.pinned (OpenSpec.ofChange topBookWrong)

/-- 'oathbooktop.TopDiary': WHATEVER THE INPUT: true; the input reads as it did. -/
def topDiarySpec : ChangeSpec := { name := "topDiary", fn := fun _ => fun
  | [d1, d2, d3] => { results := [.lit (.bool true)], args := [d1, d2, d3] }
  | _ => none }
def topDiaryRow : OpenClaim := { program := "ytaebeemnipafbaadoor", sum := "ec1b61bff5135e09449c04367cc0945278595716541838813e4c0aaaa87705c1", func := "oathbook/oathbooktop.TopDiary", spec := "topDiary", unfollowed := true, recurses := true, named := ["oathbook/sha.rounds"], apart := false, laid := [("oathbook/sha.rounds", laid_oathbook_sha_rounds)] }
def TopDiarySaid : Prop := topDiaryRow.holds Tryd.pinned (OpenSpec.ofChange topDiarySpec)

/-- ITS FALSE NEIGHBOUR: 'it returns false'. Refute it at one input. -/
def topDiaryWrong : ChangeSpec := { name := "topDiary", fn := fun _ => fun
  | [d1, d2, d3] => { results := [.lit (.bool false)], args := [d1, d2, d3] }
  | _ => none }
def TopDiaryWrongFalsely : Prop := topDiaryRow.holds Tryd.pinned (OpenSpec.ofChange topDiaryWrong)

/-- 'oathbooktop.TopKey': WHATEVER THE INPUT: true; the input reads as it did. -/
def topKeySpec : ChangeSpec := { name := "topKey", fn := fun _ => fun
  | [d1, d2, d3, d4] => { results := [.lit (.bool true)], args := [d1, d2, d3, d4] }
  | _ => none }
def topKeyRow : OpenClaim := { program := "ytaebeemnipafbaadoor", sum := "ec1b61bff5135e09449c04367cc0945278595716541838813e4c0aaaa87705c1", func := "oathbook/oathbooktop.TopKey", spec := "topKey", unfollowed := true, recurses := true, named := ["oathbook/sha.rounds"], apart := false, laid := [("oathbook/sha.rounds", laid_oathbook_sha_rounds)] }
def TopKeySaid : Prop := topKeyRow.holds Tryd.pinned (OpenSpec.ofChange topKeySpec)

/-- ITS FALSE NEIGHBOUR: 'it returns false'. Refute it at one input. -/
def topKeyWrong : ChangeSpec := { name := "topKey", fn := fun _ => fun
  | [d1, d2, d3, d4] => { results := [.lit (.bool false)], args := [d1, d2, d3, d4] }
  | _ => none }
def TopKeyWrongFalsely : Prop := topKeyRow.holds Tryd.pinned (OpenSpec.ofChange topKeyWrong)

/- THE SECOND FORM. 'bulk': how many values and letters a reading holds, each counted each time it is reached (what is shared counts as often as it is met; a slice's spare places count too). A statement '..UptoSaid' is the law's where the arguments, and the package variables that the reading takes, are together of bulk at most 1048576: NARROWER than '..Said'. Prove '..Said' where nothing that the law and all that it calls make is longer than what came in: it says more and counts as full. Else prove '..UptoSaid'. A law counts once. -/
mutual
def uptoBulk {H : Type} : DataW H → Nat
  | .lit (.string bytes) => bytes.length + 1
  | .lit _ => 1
  | .nil => 1
  | .ptr d => uptoBulk d + 1
  | .slice elems spare => uptoBulkAll elems + uptoBulkAll spare + 1
  | .agg parts => uptoBulkAll parts + 1
  | .iface _ d => uptoBulk d + 1
  | .map entries => uptoBulkEntries entries + 1
  | .held _ => 1
def uptoBulkAll {H : Type} : List (DataW H) → Nat
  | [] => 0
  | d :: r => uptoBulk d + uptoBulkAll r
def uptoBulkEntries {H : Type} : List (Lit × DataW H) → Nat
  | [] => 0
  | x :: r => uptoBulkEntry x + uptoBulkEntries r
def uptoBulkEntry {H : Type} : Lit × DataW H → Nat
  | (.string bytes, d) => bytes.length + uptoBulk d + 1
  | (_, d) => uptoBulk d + 1
 end
def uptoSmall : (H : Type) → List (DataW H) → Bool := fun _ ds => decide (uptoBulkAll ds ≤ 1048576)
def OpenSpec.upto (s : _root_.Go.ChangeSpec) : _root_.Go.OpenSpec := { _root_.Go.OpenSpec.ofChange s with cond := some uptoSmall }

/-- 'oathbooklaw3.PinForks', WHERE WHAT IT READS IS OF BULK AT MOST 1048576: true; the input reads as it did. -/
def pinForksUptoRow : OpenClaim := { program := "ytaebeemnipafbaadoor", sum := "ec1b61bff5135e09449c04367cc0945278595716541838813e4c0aaaa87705c1", func := "oathbook/oathbooklaw3.PinForks", spec := "pinForks", unfollowed := true, recurses := true, named := ["oathbook/sha.rounds"], apart := false, laid := [("oathbook/sha.rounds", laid_oathbook_sha_rounds)], narrowed := true }
def PinForksUptoSaid : Prop := pinForksUptoRow.holds Tryd.pinned (OpenSpec.upto pinForksSpec)

/-- 'oathbooklaw3.LogOne', WHERE WHAT IT READS IS OF BULK AT MOST 1048576: true; the input reads as it did. -/
def logOneUptoRow : OpenClaim := { program := "ytaebeemnipafbaadoor", sum := "ec1b61bff5135e09449c04367cc0945278595716541838813e4c0aaaa87705c1", func := "oathbook/oathbooklaw3.LogOne", spec := "logOne", unfollowed := true, recurses := true, named := ["oathbook/sha.rounds"], apart := false, laid := [("oathbook/sha.rounds", laid_oathbook_sha_rounds)], narrowed := true }
def LogOneUptoSaid : Prop := logOneUptoRow.holds Tryd.pinned (OpenSpec.upto logOneSpec)

/-- 'oathbooklaw3.PinHonest', WHERE WHAT IT READS IS OF BULK AT MOST 1048576: true; the input reads as it did. -/
def pinHonestUptoRow : OpenClaim := { program := "ytaebeemnipafbaadoor", sum := "ec1b61bff5135e09449c04367cc0945278595716541838813e4c0aaaa87705c1", func := "oathbook/oathbooklaw3.PinHonest", spec := "pinHonest", unfollowed := true, recurses := true, named := ["oathbook/sha.rounds"], apart := false, laid := [("oathbook/sha.rounds", laid_oathbook_sha_rounds)], narrowed := true }
def PinHonestUptoSaid : Prop := pinHonestUptoRow.holds Tryd.pinned (OpenSpec.upto pinHonestSpec)

/-- 'oathbooklaw3.LogTells', WHERE WHAT IT READS IS OF BULK AT MOST 1048576: true; the input reads as it did. -/
def logTellsUptoRow : OpenClaim := { program := "ytaebeemnipafbaadoor", sum := "ec1b61bff5135e09449c04367cc0945278595716541838813e4c0aaaa87705c1", func := "oathbook/oathbooklaw3.LogTells", spec := "logTells", unfollowed := true, recurses := true, named := ["oathbook/sha.rounds"], apart := false, laid := [("oathbook/sha.rounds", laid_oathbook_sha_rounds)], narrowed := true }
def LogTellsUptoSaid : Prop := logTellsUptoRow.holds Tryd.pinned (OpenSpec.upto logTellsSpec)

/-- 'oathbooklaw3.LogGrows', WHERE WHAT IT READS IS OF BULK AT MOST 1048576: true; the input reads as it did. -/
def logGrowsUptoRow : OpenClaim := { program := "ytaebeemnipafbaadoor", sum := "ec1b61bff5135e09449c04367cc0945278595716541838813e4c0aaaa87705c1", func := "oathbook/oathbooklaw3.LogGrows", spec := "logGrows", unfollowed := true, recurses := true, named := ["oathbook/sha.rounds"], apart := false, laid := [("oathbook/sha.rounds", laid_oathbook_sha_rounds)], narrowed := true }
def LogGrowsUptoSaid : Prop := logGrowsUptoRow.holds Tryd.pinned (OpenSpec.upto logGrowsSpec)

/-- 'oathbooktop.TopBook', WHERE WHAT IT READS IS OF BULK AT MOST 1048576: true; the input reads as it did. -/
def topBookUptoRow : OpenClaim := { program := "ytaebeemnipafbaadoor", sum := "ec1b61bff5135e09449c04367cc0945278595716541838813e4c0aaaa87705c1", func := "oathbook/oathbooktop.TopBook", spec := "topBook", inPlace := ["internal/bytealg.abigen_runtime_cmpstring"], unfollowed := true, recurses := true, named := ["oathbook/sha.rounds"], apart := false, laid := [("oathbook/sha.rounds", laid_oathbook_sha_rounds)], narrowed := true }
def TopBookUptoSaid : Prop := topBookUptoRow.holds Tryd.pinned (OpenSpec.upto topBookSpec)

/-- 'oathbooktop.TopDiary', WHERE WHAT IT READS IS OF BULK AT MOST 1048576: true; the input reads as it did. -/
def topDiaryUptoRow : OpenClaim := { program := "ytaebeemnipafbaadoor", sum := "ec1b61bff5135e09449c04367cc0945278595716541838813e4c0aaaa87705c1", func := "oathbook/oathbooktop.TopDiary", spec := "topDiary", unfollowed := true, recurses := true, named := ["oathbook/sha.rounds"], apart := false, laid := [("oathbook/sha.rounds", laid_oathbook_sha_rounds)], narrowed := true }
def TopDiaryUptoSaid : Prop := topDiaryUptoRow.holds Tryd.pinned (OpenSpec.upto topDiarySpec)

/-- 'oathbooktop.TopKey', WHERE WHAT IT READS IS OF BULK AT MOST 1048576: true; the input reads as it did. -/
def topKeyUptoRow : OpenClaim := { program := "ytaebeemnipafbaadoor", sum := "ec1b61bff5135e09449c04367cc0945278595716541838813e4c0aaaa87705c1", func := "oathbook/oathbooktop.TopKey", spec := "topKey", unfollowed := true, recurses := true, named := ["oathbook/sha.rounds"], apart := false, laid := [("oathbook/sha.rounds", laid_oathbook_sha_rounds)], narrowed := true }
def TopKeyUptoSaid : Prop := topKeyUptoRow.holds Tryd.pinned (OpenSpec.upto topKeySpec)

end Rows
end Go.Proofs.YtaebeemnipafbaaDoor
