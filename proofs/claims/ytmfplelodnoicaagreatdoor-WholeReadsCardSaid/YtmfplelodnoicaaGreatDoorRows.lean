/-
  NARROWER THAN 'FOR EVERY INPUT', by the rows' own cells (each row's printed sentence says how): WholeQuotients: laid · WholeReads: laid · WholeTexts: laid · WholeOps: laid · WholeRatios: laid · WholeSums: laid · WholeField: laid · WholeFolds: laid · WholePairs: laid · WholeTurns: laid.
  DERIVED. THE GIVEN ROWS OF THIS SEAT. 10 by the template 'for every input the law returns true; each argument reads behind the call as it read before'; 0 by the template 'total and deterministic' (their statements: YtmfplelodnoicaaGreatDoorTotals.lean).
  GIVEN WITH THE SEED: the statements are not yours to turn. If you find one false, say at which input.
  Laid BY PROGRAM, IN A SANDBOX (cutbox-rows.mjs): the forced cells as the released guide's own fill.sh prints them over the translation 7ca53d92987183b0… (all of the seat's roots in one cut). By AI agents, Wed Nov 11 2026. No macro, syntax, notation, axiom, sorry.
-/
import Derived.Test.YtmfplelodnoicaaGreatDoorChecked
import GoSem.PinnedTables
import GoSem.Claim
import GoSem.ClaimJoined
import GoSem.ClaimMapViews
import Derived.JoinedTies
import Derived.KernelRfl
namespace Go.Proofs.YtmfplelodnoicaaGreatDoor
/- THE CELL 'sum', in the pinned program and in every row, IS THE sha256 OF THE DUMP (.gsa) THAT YtmfplelodnoicaaGreatDoorProg.lean LOADS. Nothing in Lean hashes anything: it is a label: what it is worth is what the hold of that sum in a sandbox is worth. -/
noncomputable def Tryz.pinned : Pinned := { name := "ytmfplelodnoicaagreatdoor", sum := "7ca53d92987183b01daf0ebb5d4cbc8e31f1c2e4df18212387bbb8eac5d0fe47", checked := Tryz.checked }
namespace Rows
def none {H : Type} : Left H := { results := [], args := [] }

/- WHAT THE LISTED PACKAGE-LEVEL VARIABLES READ AS WHEN THE CALL BEGINS. Each datum BY PROGRAM (the guide's laid-datum.mjs) off the statement by which the dump's own 'gosem.cut.vars' lays the variable. In a bare row this is a premise. The card (YtmfplelodnoicaaGreatDoorCards.lean) ties it to the program's text. -/
def laid_unicode_utf8_acceptRanges {H : Type} : DataW H := .agg [.agg [.lit (.int .u8 128), .lit (.int .u8 191)], .agg [.lit (.int .u8 160), .lit (.int .u8 191)], .agg [.lit (.int .u8 128), .lit (.int .u8 159)], .agg [.lit (.int .u8 144), .lit (.int .u8 191)], .agg [.lit (.int .u8 128), .lit (.int .u8 143)], .agg [.lit (.int .u8 0), .lit (.int .u8 0)], .agg [.lit (.int .u8 0), .lit (.int .u8 0)], .agg [.lit (.int .u8 0), .lit (.int .u8 0)], .agg [.lit (.int .u8 0), .lit (.int .u8 0)], .agg [.lit (.int .u8 0), .lit (.int .u8 0)], .agg [.lit (.int .u8 0), .lit (.int .u8 0)], .agg [.lit (.int .u8 0), .lit (.int .u8 0)], .agg [.lit (.int .u8 0), .lit (.int .u8 0)], .agg [.lit (.int .u8 0), .lit (.int .u8 0)], .agg [.lit (.int .u8 0), .lit (.int .u8 0)], .agg [.lit (.int .u8 0), .lit (.int .u8 0)]]
/-- One of Go's own tables, pinned by name: the form's constant. -/
def laid_unicode_utf8_first : DataW Unit := Go.Pinned.utf8First

/-- 'copestonelaw01.WholeQuotients': WHATEVER THE INPUT: true; the input reads as it did. -/
def wholeQuotientsSpec : ChangeSpec := { name := "wholeQuotients", fn := fun _ => fun
  | [d1, d2] => { results := [.lit (.bool true)], args := [d1, d2] }
  | _ => none }
def wholeQuotientsRow : OpenClaim := { program := "ytmfplelodnoicaagreatdoor", sum := "7ca53d92987183b01daf0ebb5d4cbc8e31f1c2e4df18212387bbb8eac5d0fe47", func := "copestone/copestonelaw01.WholeQuotients", spec := "wholeQuotients", inPlace := ["internal/abi.NoEscape", "internal/bytealg.MakeNoZero", "internal/bytealg.IndexByteString", "internal/bytealg.IndexString"], unfollowed := true, recurses := true, named := ["unicode/utf8.first", "unicode/utf8.acceptRanges", "internal/bytealg.MaxLen"], apart := false, laid := [("unicode/utf8.acceptRanges", laid_unicode_utf8_acceptRanges), ("unicode/utf8.first", laid_unicode_utf8_first)] }
def WholeQuotientsSaid : Prop := wholeQuotientsRow.holds Tryz.pinned (OpenSpec.ofChange wholeQuotientsSpec)

/-- ITS FALSE NEIGHBOUR: 'it returns false'. Refute it at one input. -/
def wholeQuotientsWrong : ChangeSpec := { name := "wholeQuotients", fn := fun _ => fun
  | [d1, d2] => { results := [.lit (.bool false)], args := [d1, d2] }
  | _ => none }
def WholeQuotientsWrongFalsely : Prop := wholeQuotientsRow.holds Tryz.pinned (OpenSpec.ofChange wholeQuotientsWrong)

/-- 'copestonelaw01.WholeReads': WHATEVER THE INPUT: true; the input reads as it did. -/
def wholeReadsSpec : ChangeSpec := { name := "wholeReads", fn := fun _ => fun
  | [d] => { results := [.lit (.bool true)], args := [d] }
  | _ => none }
def wholeReadsRow : OpenClaim := { program := "ytmfplelodnoicaagreatdoor", sum := "7ca53d92987183b01daf0ebb5d4cbc8e31f1c2e4df18212387bbb8eac5d0fe47", func := "copestone/copestonelaw01.WholeReads", spec := "wholeReads", inPlace := ["internal/bytealg.IndexByteString", "internal/bytealg.IndexString", "internal/abi.NoEscape", "internal/bytealg.MakeNoZero"], unfollowed := true, recurses := true, named := ["internal/bytealg.MaxLen", "unicode/utf8.first", "unicode/utf8.acceptRanges"], apart := false, laid := [("unicode/utf8.acceptRanges", laid_unicode_utf8_acceptRanges), ("unicode/utf8.first", laid_unicode_utf8_first)] }
def WholeReadsSaid : Prop := wholeReadsRow.holds Tryz.pinned (OpenSpec.ofChange wholeReadsSpec)

/-- ITS FALSE NEIGHBOUR: 'it returns false'. Refute it at one input. -/
def wholeReadsWrong : ChangeSpec := { name := "wholeReads", fn := fun _ => fun
  | [d] => { results := [.lit (.bool false)], args := [d] }
  | _ => none }
def WholeReadsWrongFalsely : Prop := wholeReadsRow.holds Tryz.pinned (OpenSpec.ofChange wholeReadsWrong)

/-- 'copestonelaw01.WholeTexts': WHATEVER THE INPUT: true; the input reads as it did. -/
def wholeTextsSpec : ChangeSpec := { name := "wholeTexts", fn := fun _ => fun
  | [d1, d2, d3, d4] => { results := [.lit (.bool true)], args := [d1, d2, d3, d4] }
  | _ => none }
def wholeTextsRow : OpenClaim := { program := "ytmfplelodnoicaagreatdoor", sum := "7ca53d92987183b01daf0ebb5d4cbc8e31f1c2e4df18212387bbb8eac5d0fe47", func := "copestone/copestonelaw01.WholeTexts", spec := "wholeTexts", inPlace := ["internal/abi.NoEscape", "internal/bytealg.MakeNoZero", "internal/bytealg.IndexByteString", "internal/bytealg.IndexString"], unfollowed := true, recurses := true, named := ["unicode/utf8.first", "unicode/utf8.acceptRanges", "internal/bytealg.MaxLen"], apart := false, laid := [("unicode/utf8.acceptRanges", laid_unicode_utf8_acceptRanges), ("unicode/utf8.first", laid_unicode_utf8_first)] }
def WholeTextsSaid : Prop := wholeTextsRow.holds Tryz.pinned (OpenSpec.ofChange wholeTextsSpec)

/-- ITS FALSE NEIGHBOUR: 'it returns false'. Refute it at one input. -/
def wholeTextsWrong : ChangeSpec := { name := "wholeTexts", fn := fun _ => fun
  | [d1, d2, d3, d4] => { results := [.lit (.bool false)], args := [d1, d2, d3, d4] }
  | _ => none }
def WholeTextsWrongFalsely : Prop := wholeTextsRow.holds Tryz.pinned (OpenSpec.ofChange wholeTextsWrong)

/-- 'copestonelaw01.WholeOps': WHATEVER THE INPUT: true; the input reads as it did. -/
def wholeOpsSpec : ChangeSpec := { name := "wholeOps", fn := fun _ => fun
  | [d1, d2, d3] => { results := [.lit (.bool true)], args := [d1, d2, d3] }
  | _ => none }
def wholeOpsRow : OpenClaim := { program := "ytmfplelodnoicaagreatdoor", sum := "7ca53d92987183b01daf0ebb5d4cbc8e31f1c2e4df18212387bbb8eac5d0fe47", func := "copestone/copestonelaw01.WholeOps", spec := "wholeOps", inPlace := ["internal/abi.NoEscape", "internal/bytealg.MakeNoZero", "internal/bytealg.IndexByteString", "internal/bytealg.IndexString"], unfollowed := true, recurses := true, named := ["unicode/utf8.first", "unicode/utf8.acceptRanges", "internal/bytealg.MaxLen"], apart := false, laid := [("unicode/utf8.acceptRanges", laid_unicode_utf8_acceptRanges), ("unicode/utf8.first", laid_unicode_utf8_first)] }
def WholeOpsSaid : Prop := wholeOpsRow.holds Tryz.pinned (OpenSpec.ofChange wholeOpsSpec)

/-- ITS FALSE NEIGHBOUR: 'it returns false'. Refute it at one input. -/
def wholeOpsWrong : ChangeSpec := { name := "wholeOps", fn := fun _ => fun
  | [d1, d2, d3] => { results := [.lit (.bool false)], args := [d1, d2, d3] }
  | _ => none }
def WholeOpsWrongFalsely : Prop := wholeOpsRow.holds Tryz.pinned (OpenSpec.ofChange wholeOpsWrong)

/-- 'copestonelaw01.WholeRatios': WHATEVER THE INPUT: true; the input reads as it did. -/
def wholeRatiosSpec : ChangeSpec := { name := "wholeRatios", fn := fun _ => fun
  | [d1, d2, d3, d4] => { results := [.lit (.bool true)], args := [d1, d2, d3, d4] }
  | _ => none }
def wholeRatiosRow : OpenClaim := { program := "ytmfplelodnoicaagreatdoor", sum := "7ca53d92987183b01daf0ebb5d4cbc8e31f1c2e4df18212387bbb8eac5d0fe47", func := "copestone/copestonelaw01.WholeRatios", spec := "wholeRatios", inPlace := ["internal/abi.NoEscape", "internal/bytealg.MakeNoZero", "internal/bytealg.IndexByteString", "internal/bytealg.IndexString"], unfollowed := true, recurses := true, named := ["unicode/utf8.first", "unicode/utf8.acceptRanges", "internal/bytealg.MaxLen"], apart := false, laid := [("unicode/utf8.acceptRanges", laid_unicode_utf8_acceptRanges), ("unicode/utf8.first", laid_unicode_utf8_first)] }
def WholeRatiosSaid : Prop := wholeRatiosRow.holds Tryz.pinned (OpenSpec.ofChange wholeRatiosSpec)

/-- ITS FALSE NEIGHBOUR: 'it returns false'. Refute it at one input. -/
def wholeRatiosWrong : ChangeSpec := { name := "wholeRatios", fn := fun _ => fun
  | [d1, d2, d3, d4] => { results := [.lit (.bool false)], args := [d1, d2, d3, d4] }
  | _ => none }
def WholeRatiosWrongFalsely : Prop := wholeRatiosRow.holds Tryz.pinned (OpenSpec.ofChange wholeRatiosWrong)

/-- 'copestonelaw01.WholeSums': WHATEVER THE INPUT: true; the input reads as it did. -/
def wholeSumsSpec : ChangeSpec := { name := "wholeSums", fn := fun _ => fun
  | [d1, d2] => { results := [.lit (.bool true)], args := [d1, d2] }
  | _ => none }
def wholeSumsRow : OpenClaim := { program := "ytmfplelodnoicaagreatdoor", sum := "7ca53d92987183b01daf0ebb5d4cbc8e31f1c2e4df18212387bbb8eac5d0fe47", func := "copestone/copestonelaw01.WholeSums", spec := "wholeSums", inPlace := ["internal/abi.NoEscape", "internal/bytealg.MakeNoZero", "internal/bytealg.IndexByteString", "internal/bytealg.IndexString"], unfollowed := true, recurses := true, named := ["unicode/utf8.first", "unicode/utf8.acceptRanges", "internal/bytealg.MaxLen"], apart := false, laid := [("unicode/utf8.acceptRanges", laid_unicode_utf8_acceptRanges), ("unicode/utf8.first", laid_unicode_utf8_first)] }
def WholeSumsSaid : Prop := wholeSumsRow.holds Tryz.pinned (OpenSpec.ofChange wholeSumsSpec)

/-- ITS FALSE NEIGHBOUR: 'it returns false'. Refute it at one input. -/
def wholeSumsWrong : ChangeSpec := { name := "wholeSums", fn := fun _ => fun
  | [d1, d2] => { results := [.lit (.bool false)], args := [d1, d2] }
  | _ => none }
def WholeSumsWrongFalsely : Prop := wholeSumsRow.holds Tryz.pinned (OpenSpec.ofChange wholeSumsWrong)

/-- 'copestonelaw01.WholeField': WHATEVER THE INPUT: true; the input reads as it did. -/
def wholeFieldSpec : ChangeSpec := { name := "wholeField", fn := fun _ => fun
  | [d1, d2, d3] => { results := [.lit (.bool true)], args := [d1, d2, d3] }
  | _ => none }
def wholeFieldRow : OpenClaim := { program := "ytmfplelodnoicaagreatdoor", sum := "7ca53d92987183b01daf0ebb5d4cbc8e31f1c2e4df18212387bbb8eac5d0fe47", func := "copestone/copestonelaw01.WholeField", spec := "wholeField", inPlace := ["internal/bytealg.IndexByteString", "internal/bytealg.IndexString", "internal/abi.NoEscape", "internal/bytealg.MakeNoZero"], unfollowed := true, recurses := true, named := ["internal/bytealg.MaxLen", "unicode/utf8.first", "unicode/utf8.acceptRanges"], apart := false, laid := [("unicode/utf8.acceptRanges", laid_unicode_utf8_acceptRanges), ("unicode/utf8.first", laid_unicode_utf8_first)] }
def WholeFieldSaid : Prop := wholeFieldRow.holds Tryz.pinned (OpenSpec.ofChange wholeFieldSpec)

/-- ITS FALSE NEIGHBOUR: 'it returns false'. Refute it at one input. -/
def wholeFieldWrong : ChangeSpec := { name := "wholeField", fn := fun _ => fun
  | [d1, d2, d3] => { results := [.lit (.bool false)], args := [d1, d2, d3] }
  | _ => none }
def WholeFieldWrongFalsely : Prop := wholeFieldRow.holds Tryz.pinned (OpenSpec.ofChange wholeFieldWrong)

/-- 'copestonelaw01.WholeFolds': WHATEVER THE INPUT: true; the input reads as it did. -/
def wholeFoldsSpec : ChangeSpec := { name := "wholeFolds", fn := fun _ => fun
  | [d] => { results := [.lit (.bool true)], args := [d] }
  | _ => none }
def wholeFoldsRow : OpenClaim := { program := "ytmfplelodnoicaagreatdoor", sum := "7ca53d92987183b01daf0ebb5d4cbc8e31f1c2e4df18212387bbb8eac5d0fe47", func := "copestone/copestonelaw01.WholeFolds", spec := "wholeFolds", inPlace := ["internal/bytealg.IndexByteString", "internal/bytealg.IndexString", "internal/abi.NoEscape", "internal/bytealg.MakeNoZero"], unfollowed := true, recurses := true, named := ["internal/bytealg.MaxLen", "unicode/utf8.first", "unicode/utf8.acceptRanges"], apart := false, laid := [("unicode/utf8.acceptRanges", laid_unicode_utf8_acceptRanges), ("unicode/utf8.first", laid_unicode_utf8_first)] }
def WholeFoldsSaid : Prop := wholeFoldsRow.holds Tryz.pinned (OpenSpec.ofChange wholeFoldsSpec)

/-- ITS FALSE NEIGHBOUR: 'it returns false'. Refute it at one input. -/
def wholeFoldsWrong : ChangeSpec := { name := "wholeFolds", fn := fun _ => fun
  | [d] => { results := [.lit (.bool false)], args := [d] }
  | _ => none }
def WholeFoldsWrongFalsely : Prop := wholeFoldsRow.holds Tryz.pinned (OpenSpec.ofChange wholeFoldsWrong)

/-- 'copestonelaw01.WholePairs': WHATEVER THE INPUT: true; the input reads as it did. -/
def wholePairsSpec : ChangeSpec := { name := "wholePairs", fn := fun _ => fun
  | [d1, d2, d3, d4, d5] => { results := [.lit (.bool true)], args := [d1, d2, d3, d4, d5] }
  | _ => none }
def wholePairsRow : OpenClaim := { program := "ytmfplelodnoicaagreatdoor", sum := "7ca53d92987183b01daf0ebb5d4cbc8e31f1c2e4df18212387bbb8eac5d0fe47", func := "copestone/copestonelaw01.WholePairs", spec := "wholePairs", inPlace := ["internal/abi.NoEscape", "internal/bytealg.MakeNoZero", "internal/bytealg.IndexByteString", "internal/bytealg.IndexString"], unfollowed := true, recurses := true, named := ["unicode/utf8.first", "unicode/utf8.acceptRanges", "internal/bytealg.MaxLen"], apart := false, laid := [("unicode/utf8.acceptRanges", laid_unicode_utf8_acceptRanges), ("unicode/utf8.first", laid_unicode_utf8_first)] }
def WholePairsSaid : Prop := wholePairsRow.holds Tryz.pinned (OpenSpec.ofChange wholePairsSpec)

/-- ITS FALSE NEIGHBOUR: 'it returns false'. Refute it at one input. -/
def wholePairsWrong : ChangeSpec := { name := "wholePairs", fn := fun _ => fun
  | [d1, d2, d3, d4, d5] => { results := [.lit (.bool false)], args := [d1, d2, d3, d4, d5] }
  | _ => none }
def WholePairsWrongFalsely : Prop := wholePairsRow.holds Tryz.pinned (OpenSpec.ofChange wholePairsWrong)

/-- 'copestonelaw01.WholeTurns': WHATEVER THE INPUT: true; the input reads as it did. -/
def wholeTurnsSpec : ChangeSpec := { name := "wholeTurns", fn := fun _ => fun
  | [d1, d2, d3, d4, d5] => { results := [.lit (.bool true)], args := [d1, d2, d3, d4, d5] }
  | _ => none }
def wholeTurnsRow : OpenClaim := { program := "ytmfplelodnoicaagreatdoor", sum := "7ca53d92987183b01daf0ebb5d4cbc8e31f1c2e4df18212387bbb8eac5d0fe47", func := "copestone/copestonelaw01.WholeTurns", spec := "wholeTurns", inPlace := ["internal/bytealg.IndexByteString", "internal/bytealg.IndexString", "internal/abi.NoEscape", "internal/bytealg.MakeNoZero"], unfollowed := true, recurses := true, named := ["internal/bytealg.MaxLen", "unicode/utf8.first", "unicode/utf8.acceptRanges"], apart := false, laid := [("unicode/utf8.acceptRanges", laid_unicode_utf8_acceptRanges), ("unicode/utf8.first", laid_unicode_utf8_first)] }
def WholeTurnsSaid : Prop := wholeTurnsRow.holds Tryz.pinned (OpenSpec.ofChange wholeTurnsSpec)

/-- ITS FALSE NEIGHBOUR: 'it returns false'. Refute it at one input. -/
def wholeTurnsWrong : ChangeSpec := { name := "wholeTurns", fn := fun _ => fun
  | [d1, d2, d3, d4, d5] => { results := [.lit (.bool false)], args := [d1, d2, d3, d4, d5] }
  | _ => none }
def WholeTurnsWrongFalsely : Prop := wholeTurnsRow.holds Tryz.pinned (OpenSpec.ofChange wholeTurnsWrong)

/- THE SECOND FORM. 'bulk': how many values and letters a reading holds, each counted each time it is reached (what is shared counts as often as it is met; a slice's spare places count too). A statement '..UptoSaid' is the law's where the arguments, and the package variables that the reading takes, are together of bulk at most 1048576: NARROWER than '..Said'. Prove '..Said' where nothing that the law and all that it calls make is longer than what came in: it says more and counts as full. Else prove '..UptoSaid'. A law counts once. -/
mutual
def uptoBulk {H : Type} : DataW H → Nat
  | .lit (.string bytes) => bytes.length + 1
  | .lit _ => 1
  | .nil => 1
  | .ptr d => uptoBulk d + 1
  | .slice elems spare => uptoBulkAll elems + uptoBulkAll spare + 1
  | .agg parts => uptoBulkAll parts + 1
  | .iface _ d => uptoBulk d + 1
  | .map entries => uptoBulkEntries entries + 1
  | .held _ => 1
def uptoBulkAll {H : Type} : List (DataW H) → Nat
  | [] => 0
  | d :: r => uptoBulk d + uptoBulkAll r
def uptoBulkEntries {H : Type} : List (Lit × DataW H) → Nat
  | [] => 0
  | x :: r => uptoBulkEntry x + uptoBulkEntries r
def uptoBulkEntry {H : Type} : Lit × DataW H → Nat
  | (.string bytes, d) => bytes.length + uptoBulk d + 1
  | (_, d) => uptoBulk d + 1
 end
def uptoSmall : (H : Type) → List (DataW H) → Bool := fun _ ds => decide (uptoBulkAll ds ≤ 1048576)
def OpenSpec.upto (s : _root_.Go.ChangeSpec) : _root_.Go.OpenSpec := { _root_.Go.OpenSpec.ofChange s with cond := some uptoSmall }

/-- 'copestonelaw01.WholeQuotients', WHERE WHAT IT READS IS OF BULK AT MOST 1048576: true; the input reads as it did. -/
def wholeQuotientsUptoRow : OpenClaim := { program := "ytmfplelodnoicaagreatdoor", sum := "7ca53d92987183b01daf0ebb5d4cbc8e31f1c2e4df18212387bbb8eac5d0fe47", func := "copestone/copestonelaw01.WholeQuotients", spec := "wholeQuotients", inPlace := ["internal/abi.NoEscape", "internal/bytealg.MakeNoZero", "internal/bytealg.IndexByteString", "internal/bytealg.IndexString"], unfollowed := true, recurses := true, named := ["unicode/utf8.first", "unicode/utf8.acceptRanges", "internal/bytealg.MaxLen"], apart := false, laid := [("unicode/utf8.acceptRanges", laid_unicode_utf8_acceptRanges), ("unicode/utf8.first", laid_unicode_utf8_first)], narrowed := true }
def WholeQuotientsUptoSaid : Prop := wholeQuotientsUptoRow.holds Tryz.pinned (OpenSpec.upto wholeQuotientsSpec)

/-- 'copestonelaw01.WholeReads', WHERE WHAT IT READS IS OF BULK AT MOST 1048576: true; the input reads as it did. -/
def wholeReadsUptoRow : OpenClaim := { program := "ytmfplelodnoicaagreatdoor", sum := "7ca53d92987183b01daf0ebb5d4cbc8e31f1c2e4df18212387bbb8eac5d0fe47", func := "copestone/copestonelaw01.WholeReads", spec := "wholeReads", inPlace := ["internal/bytealg.IndexByteString", "internal/bytealg.IndexString", "internal/abi.NoEscape", "internal/bytealg.MakeNoZero"], unfollowed := true, recurses := true, named := ["internal/bytealg.MaxLen", "unicode/utf8.first", "unicode/utf8.acceptRanges"], apart := false, laid := [("unicode/utf8.acceptRanges", laid_unicode_utf8_acceptRanges), ("unicode/utf8.first", laid_unicode_utf8_first)], narrowed := true }
def WholeReadsUptoSaid : Prop := wholeReadsUptoRow.holds Tryz.pinned (OpenSpec.upto wholeReadsSpec)

/-- 'copestonelaw01.WholeTexts', WHERE WHAT IT READS IS OF BULK AT MOST 1048576: true; the input reads as it did. -/
def wholeTextsUptoRow : OpenClaim := { program := "ytmfplelodnoicaagreatdoor", sum := "7ca53d92987183b01daf0ebb5d4cbc8e31f1c2e4df18212387bbb8eac5d0fe47", func := "copestone/copestonelaw01.WholeTexts", spec := "wholeTexts", inPlace := ["internal/abi.NoEscape", "internal/bytealg.MakeNoZero", "internal/bytealg.IndexByteString", "internal/bytealg.IndexString"], unfollowed := true, recurses := true, named := ["unicode/utf8.first", "unicode/utf8.acceptRanges", "internal/bytealg.MaxLen"], apart := false, laid := [("unicode/utf8.acceptRanges", laid_unicode_utf8_acceptRanges), ("unicode/utf8.first", laid_unicode_utf8_first)], narrowed := true }
def WholeTextsUptoSaid : Prop := wholeTextsUptoRow.holds Tryz.pinned (OpenSpec.upto wholeTextsSpec)

/-- 'copestonelaw01.WholeOps', WHERE WHAT IT READS IS OF BULK AT MOST 1048576: true; the input reads as it did. -/
def wholeOpsUptoRow : OpenClaim := { program := "ytmfplelodnoicaagreatdoor", sum := "7ca53d92987183b01daf0ebb5d4cbc8e31f1c2e4df18212387bbb8eac5d0fe47", func := "copestone/copestonelaw01.WholeOps", spec := "wholeOps", inPlace := ["internal/abi.NoEscape", "internal/bytealg.MakeNoZero", "internal/bytealg.IndexByteString", "internal/bytealg.IndexString"], unfollowed := true, recurses := true, named := ["unicode/utf8.first", "unicode/utf8.acceptRanges", "internal/bytealg.MaxLen"], apart := false, laid := [("unicode/utf8.acceptRanges", laid_unicode_utf8_acceptRanges), ("unicode/utf8.first", laid_unicode_utf8_first)], narrowed := true }
def WholeOpsUptoSaid : Prop := wholeOpsUptoRow.holds Tryz.pinned (OpenSpec.upto wholeOpsSpec)

/-- 'copestonelaw01.WholeRatios', WHERE WHAT IT READS IS OF BULK AT MOST 1048576: true; the input reads as it did. -/
def wholeRatiosUptoRow : OpenClaim := { program := "ytmfplelodnoicaagreatdoor", sum := "7ca53d92987183b01daf0ebb5d4cbc8e31f1c2e4df18212387bbb8eac5d0fe47", func := "copestone/copestonelaw01.WholeRatios", spec := "wholeRatios", inPlace := ["internal/abi.NoEscape", "internal/bytealg.MakeNoZero", "internal/bytealg.IndexByteString", "internal/bytealg.IndexString"], unfollowed := true, recurses := true, named := ["unicode/utf8.first", "unicode/utf8.acceptRanges", "internal/bytealg.MaxLen"], apart := false, laid := [("unicode/utf8.acceptRanges", laid_unicode_utf8_acceptRanges), ("unicode/utf8.first", laid_unicode_utf8_first)], narrowed := true }
def WholeRatiosUptoSaid : Prop := wholeRatiosUptoRow.holds Tryz.pinned (OpenSpec.upto wholeRatiosSpec)

/-- 'copestonelaw01.WholeSums', WHERE WHAT IT READS IS OF BULK AT MOST 1048576: true; the input reads as it did. -/
def wholeSumsUptoRow : OpenClaim := { program := "ytmfplelodnoicaagreatdoor", sum := "7ca53d92987183b01daf0ebb5d4cbc8e31f1c2e4df18212387bbb8eac5d0fe47", func := "copestone/copestonelaw01.WholeSums", spec := "wholeSums", inPlace := ["internal/abi.NoEscape", "internal/bytealg.MakeNoZero", "internal/bytealg.IndexByteString", "internal/bytealg.IndexString"], unfollowed := true, recurses := true, named := ["unicode/utf8.first", "unicode/utf8.acceptRanges", "internal/bytealg.MaxLen"], apart := false, laid := [("unicode/utf8.acceptRanges", laid_unicode_utf8_acceptRanges), ("unicode/utf8.first", laid_unicode_utf8_first)], narrowed := true }
def WholeSumsUptoSaid : Prop := wholeSumsUptoRow.holds Tryz.pinned (OpenSpec.upto wholeSumsSpec)

/-- 'copestonelaw01.WholeField', WHERE WHAT IT READS IS OF BULK AT MOST 1048576: true; the input reads as it did. -/
def wholeFieldUptoRow : OpenClaim := { program := "ytmfplelodnoicaagreatdoor", sum := "7ca53d92987183b01daf0ebb5d4cbc8e31f1c2e4df18212387bbb8eac5d0fe47", func := "copestone/copestonelaw01.WholeField", spec := "wholeField", inPlace := ["internal/bytealg.IndexByteString", "internal/bytealg.IndexString", "internal/abi.NoEscape", "internal/bytealg.MakeNoZero"], unfollowed := true, recurses := true, named := ["internal/bytealg.MaxLen", "unicode/utf8.first", "unicode/utf8.acceptRanges"], apart := false, laid := [("unicode/utf8.acceptRanges", laid_unicode_utf8_acceptRanges), ("unicode/utf8.first", laid_unicode_utf8_first)], narrowed := true }
def WholeFieldUptoSaid : Prop := wholeFieldUptoRow.holds Tryz.pinned (OpenSpec.upto wholeFieldSpec)

/-- 'copestonelaw01.WholeFolds', WHERE WHAT IT READS IS OF BULK AT MOST 1048576: true; the input reads as it did. -/
def wholeFoldsUptoRow : OpenClaim := { program := "ytmfplelodnoicaagreatdoor", sum := "7ca53d92987183b01daf0ebb5d4cbc8e31f1c2e4df18212387bbb8eac5d0fe47", func := "copestone/copestonelaw01.WholeFolds", spec := "wholeFolds", inPlace := ["internal/bytealg.IndexByteString", "internal/bytealg.IndexString", "internal/abi.NoEscape", "internal/bytealg.MakeNoZero"], unfollowed := true, recurses := true, named := ["internal/bytealg.MaxLen", "unicode/utf8.first", "unicode/utf8.acceptRanges"], apart := false, laid := [("unicode/utf8.acceptRanges", laid_unicode_utf8_acceptRanges), ("unicode/utf8.first", laid_unicode_utf8_first)], narrowed := true }
def WholeFoldsUptoSaid : Prop := wholeFoldsUptoRow.holds Tryz.pinned (OpenSpec.upto wholeFoldsSpec)

/-- 'copestonelaw01.WholePairs', WHERE WHAT IT READS IS OF BULK AT MOST 1048576: true; the input reads as it did. -/
def wholePairsUptoRow : OpenClaim := { program := "ytmfplelodnoicaagreatdoor", sum := "7ca53d92987183b01daf0ebb5d4cbc8e31f1c2e4df18212387bbb8eac5d0fe47", func := "copestone/copestonelaw01.WholePairs", spec := "wholePairs", inPlace := ["internal/abi.NoEscape", "internal/bytealg.MakeNoZero", "internal/bytealg.IndexByteString", "internal/bytealg.IndexString"], unfollowed := true, recurses := true, named := ["unicode/utf8.first", "unicode/utf8.acceptRanges", "internal/bytealg.MaxLen"], apart := false, laid := [("unicode/utf8.acceptRanges", laid_unicode_utf8_acceptRanges), ("unicode/utf8.first", laid_unicode_utf8_first)], narrowed := true }
def WholePairsUptoSaid : Prop := wholePairsUptoRow.holds Tryz.pinned (OpenSpec.upto wholePairsSpec)

/-- 'copestonelaw01.WholeTurns', WHERE WHAT IT READS IS OF BULK AT MOST 1048576: true; the input reads as it did. -/
def wholeTurnsUptoRow : OpenClaim := { program := "ytmfplelodnoicaagreatdoor", sum := "7ca53d92987183b01daf0ebb5d4cbc8e31f1c2e4df18212387bbb8eac5d0fe47", func := "copestone/copestonelaw01.WholeTurns", spec := "wholeTurns", inPlace := ["internal/bytealg.IndexByteString", "internal/bytealg.IndexString", "internal/abi.NoEscape", "internal/bytealg.MakeNoZero"], unfollowed := true, recurses := true, named := ["internal/bytealg.MaxLen", "unicode/utf8.first", "unicode/utf8.acceptRanges"], apart := false, laid := [("unicode/utf8.acceptRanges", laid_unicode_utf8_acceptRanges), ("unicode/utf8.first", laid_unicode_utf8_first)], narrowed := true }
def WholeTurnsUptoSaid : Prop := wholeTurnsUptoRow.holds Tryz.pinned (OpenSpec.upto wholeTurnsSpec)

end Rows
end Go.Proofs.YtmfplelodnoicaaGreatDoor
