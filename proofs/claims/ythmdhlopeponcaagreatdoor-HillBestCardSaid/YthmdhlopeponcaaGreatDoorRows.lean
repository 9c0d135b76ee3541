/-
  NARROWER THAN 'FOR EVERY INPUT', by the rows' own cells (each row's printed sentence says how): HillFeet: laid · HillDigs: laid · HillBest: laid · HillRows: laid · HillFloods: laid · HillTurned: laid · HillStands: laid · HillMeasures: laid · HillAreas: laid · HillRises: laid · HillGrounds: laid · HillGreatest: laid · HillCheapest: laid.
  DERIVED. THE GIVEN ROWS OF THIS SEAT. 13 by the template 'for every input the law returns true; each argument reads behind the call as it read before'; 0 by the template 'total and deterministic' (their statements: YthmdhlopeponcaaGreatDoorTotals.lean).
  GIVEN WITH THE SEED: the statements are not yours to turn. If you find one false, say at which input.
  Laid BY PROGRAM, IN A SANDBOX (cutbox-rows.mjs): the forced cells as the released guide's own fill.sh prints them over the translation b8cfba8d0280238e… (all of the seat's roots in one cut). By AI agents, Wed Nov 11 2026. No macro, syntax, notation, axiom, sorry.
-/
import Derived.Test.YthmdhlopeponcaaGreatDoorChecked
import GoSem.PinnedTables
import GoSem.Claim
import GoSem.ClaimJoined
import GoSem.ClaimMapViews
import Derived.JoinedTies
import Derived.KernelRfl
namespace Go.Proofs.YthmdhlopeponcaaGreatDoor
/- THE CELL 'sum', in the pinned program and in every row, IS THE sha256 OF THE DUMP (.gsa) THAT YthmdhlopeponcaaGreatDoorProg.lean LOADS. Nothing in Lean hashes anything: it is a label: what it is worth is what the hold of that sum in a sandbox is worth. -/
noncomputable def Tryz.pinned : Pinned := { name := "ythmdhlopeponcaagreatdoor", sum := "b8cfba8d0280238e24c43ed330b2bb3e581504d77e06772ebf974cce36c83575", checked := Tryz.checked }
namespace Rows
def none {H : Type} : Left H := { results := [], args := [] }

/- WHAT THE LISTED PACKAGE-LEVEL VARIABLES READ AS WHEN THE CALL BEGINS. Each datum BY PROGRAM (the guide's laid-datum.mjs) off the statement by which the dump's own 'gosem.cut.vars' lays the variable. In a bare row this is a premise. The card (YthmdhlopeponcaaGreatDoorCards.lean) ties it to the program's text. -/
def laid_unicode_utf8_acceptRanges {H : Type} : DataW H := .agg [.agg [.lit (.int .u8 128), .lit (.int .u8 191)], .agg [.lit (.int .u8 160), .lit (.int .u8 191)], .agg [.lit (.int .u8 128), .lit (.int .u8 159)], .agg [.lit (.int .u8 144), .lit (.int .u8 191)], .agg [.lit (.int .u8 128), .lit (.int .u8 143)], .agg [.lit (.int .u8 0), .lit (.int .u8 0)], .agg [.lit (.int .u8 0), .lit (.int .u8 0)], .agg [.lit (.int .u8 0), .lit (.int .u8 0)], .agg [.lit (.int .u8 0), .lit (.int .u8 0)], .agg [.lit (.int .u8 0), .lit (.int .u8 0)], .agg [.lit (.int .u8 0), .lit (.int .u8 0)], .agg [.lit (.int .u8 0), .lit (.int .u8 0)], .agg [.lit (.int .u8 0), .lit (.int .u8 0)], .agg [.lit (.int .u8 0), .lit (.int .u8 0)], .agg [.lit (.int .u8 0), .lit (.int .u8 0)], .agg [.lit (.int .u8 0), .lit (.int .u8 0)]]
/-- One of Go's own tables, pinned by name: the form's constant. -/
def laid_unicode_utf8_first : DataW Unit := Go.Pinned.utf8First

/-- 'copestonelaw08.HillFeet': WHATEVER THE INPUT: true; the input reads as it did. -/
def hillFeetSpec : ChangeSpec := { name := "hillFeet", fn := fun _ => fun
  | [d1, d2, d3, d4] => { results := [.lit (.bool true)], args := [d1, d2, d3, d4] }
  | _ => none }
def hillFeetRow : OpenClaim := { program := "ythmdhlopeponcaagreatdoor", sum := "b8cfba8d0280238e24c43ed330b2bb3e581504d77e06772ebf974cce36c83575", func := "copestone/copestonelaw08.HillFeet", spec := "hillFeet", inPlace := ["internal/abi.NoEscape", "internal/bytealg.MakeNoZero", "internal/bytealg.IndexByteString", "internal/bytealg.IndexString"], unfollowed := true, recurses := true, named := ["unicode/utf8.first", "unicode/utf8.acceptRanges", "internal/bytealg.MaxLen"], plainKeys := false, apart := false, laid := [("unicode/utf8.acceptRanges", laid_unicode_utf8_acceptRanges), ("unicode/utf8.first", laid_unicode_utf8_first)] }
def HillFeetSaid : Prop := hillFeetRow.holds Tryz.pinned (OpenSpec.ofChange hillFeetSpec)

/-- ITS FALSE NEIGHBOUR: 'it returns false'. Refute it at one input. -/
def hillFeetWrong : ChangeSpec := { name := "hillFeet", fn := fun _ => fun
  | [d1, d2, d3, d4] => { results := [.lit (.bool false)], args := [d1, d2, d3, d4] }
  | _ => none }
def HillFeetWrongFalsely : Prop := hillFeetRow.holds Tryz.pinned (OpenSpec.ofChange hillFeetWrong)

/-- 'copestonelaw08.HillDigs': WHATEVER THE INPUT: true; the input reads as it did. -/
def hillDigsSpec : ChangeSpec := { name := "hillDigs", fn := fun _ => fun
  | [d1, d2, d3] => { results := [.lit (.bool true)], args := [d1, d2, d3] }
  | _ => none }
def hillDigsRow : OpenClaim := { program := "ythmdhlopeponcaagreatdoor", sum := "b8cfba8d0280238e24c43ed330b2bb3e581504d77e06772ebf974cce36c83575", func := "copestone/copestonelaw08.HillDigs", spec := "hillDigs", inPlace := ["internal/abi.NoEscape", "internal/bytealg.MakeNoZero", "internal/bytealg.IndexByteString", "internal/bytealg.IndexString"], unfollowed := true, recurses := true, named := ["unicode/utf8.first", "unicode/utf8.acceptRanges", "internal/bytealg.MaxLen"], plainKeys := false, apart := false, laid := [("unicode/utf8.acceptRanges", laid_unicode_utf8_acceptRanges), ("unicode/utf8.first", laid_unicode_utf8_first)] }
def HillDigsSaid : Prop := hillDigsRow.holds Tryz.pinned (OpenSpec.ofChange hillDigsSpec)

/-- ITS FALSE NEIGHBOUR: 'it returns false'. Refute it at one input. -/
def hillDigsWrong : ChangeSpec := { name := "hillDigs", fn := fun _ => fun
  | [d1, d2, d3] => { results := [.lit (.bool false)], args := [d1, d2, d3] }
  | _ => none }
def HillDigsWrongFalsely : Prop := hillDigsRow.holds Tryz.pinned (OpenSpec.ofChange hillDigsWrong)

/-- 'copestonelaw08.HillBest': WHATEVER THE INPUT: true; the input reads as it did. -/
def hillBestSpec : ChangeSpec := { name := "hillBest", fn := fun _ => fun
  | [d1, d2, d3, d4, d5, d6, d7] => { results := [.lit (.bool true)], args := [d1, d2, d3, d4, d5, d6, d7] }
  | _ => none }
def hillBestRow : OpenClaim := { program := "ythmdhlopeponcaagreatdoor", sum := "b8cfba8d0280238e24c43ed330b2bb3e581504d77e06772ebf974cce36c83575", func := "copestone/copestonelaw08.HillBest", spec := "hillBest", inPlace := ["internal/abi.NoEscape", "internal/bytealg.MakeNoZero", "internal/bytealg.IndexByteString", "internal/bytealg.IndexString"], unfollowed := true, recurses := true, named := ["unicode/utf8.first", "unicode/utf8.acceptRanges", "internal/bytealg.MaxLen"], plainKeys := false, apart := false, laid := [("unicode/utf8.acceptRanges", laid_unicode_utf8_acceptRanges), ("unicode/utf8.first", laid_unicode_utf8_first)] }
def HillBestSaid : Prop := hillBestRow.holds Tryz.pinned (OpenSpec.ofChange hillBestSpec)

/-- ITS FALSE NEIGHBOUR: 'it returns false'. Refute it at one input. -/
def hillBestWrong : ChangeSpec := { name := "hillBest", fn := fun _ => fun
  | [d1, d2, d3, d4, d5, d6, d7] => { results := [.lit (.bool false)], args := [d1, d2, d3, d4, d5, d6, d7] }
  | _ => none }
def HillBestWrongFalsely : Prop := hillBestRow.holds Tryz.pinned (OpenSpec.ofChange hillBestWrong)

/-- 'copestonelaw08.HillRows': WHATEVER THE INPUT: true; the input reads as it did. -/
def hillRowsSpec : ChangeSpec := { name := "hillRows", fn := fun _ => fun
  | [d1, d2, d3, d4, d5] => { results := [.lit (.bool true)], args := [d1, d2, d3, d4, d5] }
  | _ => none }
def hillRowsRow : OpenClaim := { program := "ythmdhlopeponcaagreatdoor", sum := "b8cfba8d0280238e24c43ed330b2bb3e581504d77e06772ebf974cce36c83575", func := "copestone/copestonelaw08.HillRows", spec := "hillRows", inPlace := ["internal/abi.NoEscape", "internal/bytealg.MakeNoZero", "internal/bytealg.IndexByteString", "internal/bytealg.IndexString"], unfollowed := true, recurses := true, named := ["unicode/utf8.first", "unicode/utf8.acceptRanges", "internal/bytealg.MaxLen"], plainKeys := false, apart := false, laid := [("unicode/utf8.acceptRanges", laid_unicode_utf8_acceptRanges), ("unicode/utf8.first", laid_unicode_utf8_first)] }
def HillRowsSaid : Prop := hillRowsRow.holds Tryz.pinned (OpenSpec.ofChange hillRowsSpec)

/-- ITS FALSE NEIGHBOUR: 'it returns false'. Refute it at one input. -/
def hillRowsWrong : ChangeSpec := { name := "hillRows", fn := fun _ => fun
  | [d1, d2, d3, d4, d5] => { results := [.lit (.bool false)], args := [d1, d2, d3, d4, d5] }
  | _ => none }
def HillRowsWrongFalsely : Prop := hillRowsRow.holds Tryz.pinned (OpenSpec.ofChange hillRowsWrong)

/-- 'copestonelaw08.HillFloods': WHATEVER THE INPUT: true; the input reads as it did. -/
def hillFloodsSpec : ChangeSpec := { name := "hillFloods", fn := fun _ => fun
  | [d1, d2, d3, d4] => { results := [.lit (.bool true)], args := [d1, d2, d3, d4] }
  | _ => none }
def hillFloodsRow : OpenClaim := { program := "ythmdhlopeponcaagreatdoor", sum := "b8cfba8d0280238e24c43ed330b2bb3e581504d77e06772ebf974cce36c83575", func := "copestone/copestonelaw08.HillFloods", spec := "hillFloods", inPlace := ["internal/abi.NoEscape", "internal/bytealg.MakeNoZero", "internal/bytealg.IndexByteString", "internal/bytealg.IndexString"], unfollowed := true, recurses := true, named := ["unicode/utf8.first", "unicode/utf8.acceptRanges", "internal/bytealg.MaxLen"], plainKeys := false, apart := false, laid := [("unicode/utf8.acceptRanges", laid_unicode_utf8_acceptRanges), ("unicode/utf8.first", laid_unicode_utf8_first)] }
def HillFloodsSaid : Prop := hillFloodsRow.holds Tryz.pinned (OpenSpec.ofChange hillFloodsSpec)

/-- ITS FALSE NEIGHBOUR: 'it returns false'. Refute it at one input. -/
def hillFloodsWrong : ChangeSpec := { name := "hillFloods", fn := fun _ => fun
  | [d1, d2, d3, d4] => { results := [.lit (.bool false)], args := [d1, d2, d3, d4] }
  | _ => none }
def HillFloodsWrongFalsely : Prop := hillFloodsRow.holds Tryz.pinned (OpenSpec.ofChange hillFloodsWrong)

/-- 'copestonelaw08.HillTurned': WHATEVER THE INPUT: true; the input reads as it did. -/
def hillTurnedSpec : ChangeSpec := { name := "hillTurned", fn := fun _ => fun
  | [d1, d2, d3, d4, d5, d6] => { results := [.lit (.bool true)], args := [d1, d2, d3, d4, d5, d6] }
  | _ => none }
def hillTurnedRow : OpenClaim := { program := "ythmdhlopeponcaagreatdoor", sum := "b8cfba8d0280238e24c43ed330b2bb3e581504d77e06772ebf974cce36c83575", func := "copestone/copestonelaw08.HillTurned", spec := "hillTurned", inPlace := ["internal/abi.NoEscape", "internal/bytealg.MakeNoZero", "internal/bytealg.IndexByteString", "internal/bytealg.IndexString"], unfollowed := true, recurses := true, named := ["unicode/utf8.first", "unicode/utf8.acceptRanges", "internal/bytealg.MaxLen"], plainKeys := false, apart := false, laid := [("unicode/utf8.acceptRanges", laid_unicode_utf8_acceptRanges), ("unicode/utf8.first", laid_unicode_utf8_first)] }
def HillTurnedSaid : Prop := hillTurnedRow.holds Tryz.pinned (OpenSpec.ofChange hillTurnedSpec)

/-- ITS FALSE NEIGHBOUR: 'it returns false'. Refute it at one input. -/
def hillTurnedWrong : ChangeSpec := { name := "hillTurned", fn := fun _ => fun
  | [d1, d2, d3, d4, d5, d6] => { results := [.lit (.bool false)], args := [d1, d2, d3, d4, d5, d6] }
  | _ => none }
def HillTurnedWrongFalsely : Prop := hillTurnedRow.holds Tryz.pinned (OpenSpec.ofChange hillTurnedWrong)

/-- 'copestonelaw08.HillStands': WHATEVER THE INPUT: true; the input reads as it did. -/
def hillStandsSpec : ChangeSpec := { name := "hillStands", fn := fun _ => fun
  | [d1, d2, d3, d4, d5, d6] => { results := [.lit (.bool true)], args := [d1, d2, d3, d4, d5, d6] }
  | _ => none }
def hillStandsRow : OpenClaim := { program := "ythmdhlopeponcaagreatdoor", sum := "b8cfba8d0280238e24c43ed330b2bb3e581504d77e06772ebf974cce36c83575", func := "copestone/copestonelaw08.HillStands", spec := "hillStands", inPlace := ["internal/abi.NoEscape", "internal/bytealg.MakeNoZero", "internal/bytealg.IndexByteString", "internal/bytealg.IndexString"], unfollowed := true, recurses := true, named := ["unicode/utf8.first", "unicode/utf8.acceptRanges", "internal/bytealg.MaxLen"], plainKeys := false, apart := false, laid := [("unicode/utf8.acceptRanges", laid_unicode_utf8_acceptRanges), ("unicode/utf8.first", laid_unicode_utf8_first)] }
def HillStandsSaid : Prop := hillStandsRow.holds Tryz.pinned (OpenSpec.ofChange hillStandsSpec)

/-- ITS FALSE NEIGHBOUR: 'it returns false'. Refute it at one input. -/
def hillStandsWrong : ChangeSpec := { name := "hillStands", fn := fun _ => fun
  | [d1, d2, d3, d4, d5, d6] => { results := [.lit (.bool false)], args := [d1, d2, d3, d4, d5, d6] }
  | _ => none }
def HillStandsWrongFalsely : Prop := hillStandsRow.holds Tryz.pinned (OpenSpec.ofChange hillStandsWrong)

/-- 'copestonelaw08.HillMeasures': WHATEVER THE INPUT: true; the input reads as it did. -/
def hillMeasuresSpec : ChangeSpec := { name := "hillMeasures", fn := fun _ => fun
  | [d1, d2, d3, d4, d5] => { results := [.lit (.bool true)], args := [d1, d2, d3, d4, d5] }
  | _ => none }
def hillMeasuresRow : OpenClaim := { program := "ythmdhlopeponcaagreatdoor", sum := "b8cfba8d0280238e24c43ed330b2bb3e581504d77e06772ebf974cce36c83575", func := "copestone/copestonelaw08.HillMeasures", spec := "hillMeasures", inPlace := ["internal/abi.NoEscape", "internal/bytealg.MakeNoZero", "internal/bytealg.IndexByteString", "internal/bytealg.IndexString"], unfollowed := true, recurses := true, named := ["unicode/utf8.first", "unicode/utf8.acceptRanges", "internal/bytealg.MaxLen"], plainKeys := false, apart := false, laid := [("unicode/utf8.acceptRanges", laid_unicode_utf8_acceptRanges), ("unicode/utf8.first", laid_unicode_utf8_first)] }
def HillMeasuresSaid : Prop := hillMeasuresRow.holds Tryz.pinned (OpenSpec.ofChange hillMeasuresSpec)

/-- ITS FALSE NEIGHBOUR: 'it returns false'. Refute it at one input. -/
def hillMeasuresWrong : ChangeSpec := { name := "hillMeasures", fn := fun _ => fun
  | [d1, d2, d3, d4, d5] => { results := [.lit (.bool false)], args := [d1, d2, d3, d4, d5] }
  | _ => none }
def HillMeasuresWrongFalsely : Prop := hillMeasuresRow.holds Tryz.pinned (OpenSpec.ofChange hillMeasuresWrong)

/-- 'copestonelaw08.HillAreas': WHATEVER THE INPUT: true; the input reads as it did. -/
def hillAreasSpec : ChangeSpec := { name := "hillAreas", fn := fun _ => fun
  | [d1, d2, d3, d4] => { results := [.lit (.bool true)], args := [d1, d2, d3, d4] }
  | _ => none }
def hillAreasRow : OpenClaim := { program := "ythmdhlopeponcaagreatdoor", sum := "b8cfba8d0280238e24c43ed330b2bb3e581504d77e06772ebf974cce36c83575", func := "copestone/copestonelaw08.HillAreas", spec := "hillAreas", inPlace := ["internal/abi.NoEscape", "internal/bytealg.MakeNoZero", "internal/bytealg.IndexByteString", "internal/bytealg.IndexString"], unfollowed := true, recurses := true, named := ["unicode/utf8.first", "unicode/utf8.acceptRanges", "internal/bytealg.MaxLen"], plainKeys := false, apart := false, laid := [("unicode/utf8.acceptRanges", laid_unicode_utf8_acceptRanges), ("unicode/utf8.first", laid_unicode_utf8_first)] }
def HillAreasSaid : Prop := hillAreasRow.holds Tryz.pinned (OpenSpec.ofChange hillAreasSpec)

/-- ITS FALSE NEIGHBOUR: 'it returns false'. Refute it at one input. -/
def hillAreasWrong : ChangeSpec := { name := "hillAreas", fn := fun _ => fun
  | [d1, d2, d3, d4] => { results := [.lit (.bool false)], args := [d1, d2, d3, d4] }
  | _ => none }
def HillAreasWrongFalsely : Prop := hillAreasRow.holds Tryz.pinned (OpenSpec.ofChange hillAreasWrong)

/-- 'copestonelaw08.HillRises': WHATEVER THE INPUT: true; the input reads as it did. -/
def hillRisesSpec : ChangeSpec := { name := "hillRises", fn := fun _ => fun
  | [d1, d2, d3, d4, d5, d6] => { results := [.lit (.bool true)], args := [d1, d2, d3, d4, d5, d6] }
  | _ => none }
def hillRisesRow : OpenClaim := { program := "ythmdhlopeponcaagreatdoor", sum := "b8cfba8d0280238e24c43ed330b2bb3e581504d77e06772ebf974cce36c83575", func := "copestone/copestonelaw08.HillRises", spec := "hillRises", inPlace := ["internal/abi.NoEscape", "internal/bytealg.MakeNoZero", "internal/bytealg.IndexByteString", "internal/bytealg.IndexString"], unfollowed := true, recurses := true, named := ["unicode/utf8.first", "unicode/utf8.acceptRanges", "internal/bytealg.MaxLen"], plainKeys := false, apart := false, laid := [("unicode/utf8.acceptRanges", laid_unicode_utf8_acceptRanges), ("unicode/utf8.first", laid_unicode_utf8_first)] }
def HillRisesSaid : Prop := hillRisesRow.holds Tryz.pinned (OpenSpec.ofChange hillRisesSpec)

/-- ITS FALSE NEIGHBOUR: 'it returns false'. Refute it at one input. -/
def hillRisesWrong : ChangeSpec := { name := "hillRises", fn := fun _ => fun
  | [d1, d2, d3, d4, d5, d6] => { results := [.lit (.bool false)], args := [d1, d2, d3, d4, d5, d6] }
  | _ => none }
def HillRisesWrongFalsely : Prop := hillRisesRow.holds Tryz.pinned (OpenSpec.ofChange hillRisesWrong)

/-- 'copestonelaw08.HillGrounds': WHATEVER THE INPUT: true; the input reads as it did. -/
def hillGroundsSpec : ChangeSpec := { name := "hillGrounds", fn := fun _ => fun
  | [d1, d2, d3, d4] => { results := [.lit (.bool true)], args := [d1, d2, d3, d4] }
  | _ => none }
def hillGroundsRow : OpenClaim := { program := "ythmdhlopeponcaagreatdoor", sum := "b8cfba8d0280238e24c43ed330b2bb3e581504d77e06772ebf974cce36c83575", func := "copestone/copestonelaw08.HillGrounds", spec := "hillGrounds", inPlace := ["internal/abi.NoEscape", "internal/bytealg.MakeNoZero", "internal/bytealg.IndexByteString", "internal/bytealg.IndexString"], unfollowed := true, recurses := true, named := ["unicode/utf8.first", "unicode/utf8.acceptRanges", "internal/bytealg.MaxLen"], plainKeys := false, apart := false, laid := [("unicode/utf8.acceptRanges", laid_unicode_utf8_acceptRanges), ("unicode/utf8.first", laid_unicode_utf8_first)] }
def HillGroundsSaid : Prop := hillGroundsRow.holds Tryz.pinned (OpenSpec.ofChange hillGroundsSpec)

/-- ITS FALSE NEIGHBOUR: 'it returns false'. Refute it at one input. -/
def hillGroundsWrong : ChangeSpec := { name := "hillGrounds", fn := fun _ => fun
  | [d1, d2, d3, d4] => { results := [.lit (.bool false)], args := [d1, d2, d3, d4] }
  | _ => none }
def HillGroundsWrongFalsely : Prop := hillGroundsRow.holds Tryz.pinned (OpenSpec.ofChange hillGroundsWrong)

/-- 'copestonelaw08.HillGreatest': WHATEVER THE INPUT: true; the input reads as it did. -/
def hillGreatestSpec : ChangeSpec := { name := "hillGreatest", fn := fun _ => fun
  | [d1, d2, d3, d4, d5] => { results := [.lit (.bool true)], args := [d1, d2, d3, d4, d5] }
  | _ => none }
def hillGreatestRow : OpenClaim := { program := "ythmdhlopeponcaagreatdoor", sum := "b8cfba8d0280238e24c43ed330b2bb3e581504d77e06772ebf974cce36c83575", func := "copestone/copestonelaw08.HillGreatest", spec := "hillGreatest", inPlace := ["internal/abi.NoEscape", "internal/bytealg.MakeNoZero", "internal/bytealg.IndexByteString", "internal/bytealg.IndexString"], unfollowed := true, recurses := true, named := ["unicode/utf8.first", "unicode/utf8.acceptRanges", "internal/bytealg.MaxLen"], plainKeys := false, apart := false, laid := [("unicode/utf8.acceptRanges", laid_unicode_utf8_acceptRanges), ("unicode/utf8.first", laid_unicode_utf8_first)] }
def HillGreatestSaid : Prop := hillGreatestRow.holds Tryz.pinned (OpenSpec.ofChange hillGreatestSpec)

/-- ITS FALSE NEIGHBOUR: 'it returns false'. Refute it at one input. -/
def hillGreatestWrong : ChangeSpec := { name := "hillGreatest", fn := fun _ => fun
  | [d1, d2, d3, d4, d5] => { results := [.lit (.bool false)], args := [d1, d2, d3, d4, d5] }
  | _ => none }
def HillGreatestWrongFalsely : Prop := hillGreatestRow.holds Tryz.pinned (OpenSpec.ofChange hillGreatestWrong)

/-- 'copestonelaw08.HillCheapest': WHATEVER THE INPUT: true; the input reads as it did. -/
def hillCheapestSpec : ChangeSpec := { name := "hillCheapest", fn := fun _ => fun
  | [d1, d2, d3, d4, d5, d6, d7, d8] => { results := [.lit (.bool true)], args := [d1, d2, d3, d4, d5, d6, d7, d8] }
  | _ => none }
def hillCheapestRow : OpenClaim := { program := "ythmdhlopeponcaagreatdoor", sum := "b8cfba8d0280238e24c43ed330b2bb3e581504d77e06772ebf974cce36c83575", func := "copestone/copestonelaw08.HillCheapest", spec := "hillCheapest", inPlace := ["internal/abi.NoEscape", "internal/bytealg.MakeNoZero", "internal/bytealg.IndexByteString", "internal/bytealg.IndexString"], unfollowed := true, recurses := true, named := ["unicode/utf8.first", "unicode/utf8.acceptRanges", "internal/bytealg.MaxLen"], plainKeys := false, apart := false, laid := [("unicode/utf8.acceptRanges", laid_unicode_utf8_acceptRanges), ("unicode/utf8.first", laid_unicode_utf8_first)] }
def HillCheapestSaid : Prop := hillCheapestRow.holds Tryz.pinned (OpenSpec.ofChange hillCheapestSpec)

/-- ITS FALSE NEIGHBOUR: 'it returns false'. Refute it at one input. -/
def hillCheapestWrong : ChangeSpec := { name := "hillCheapest", fn := fun _ => fun
  | [d1, d2, d3, d4, d5, d6, d7, d8] => { results := [.lit (.bool false)], args := [d1, d2, d3, d4, d5, d6, d7, d8] }
  | _ => none }
def HillCheapestWrongFalsely : Prop := hillCheapestRow.holds Tryz.pinned (OpenSpec.ofChange hillCheapestWrong)

/- THE SECOND FORM. 'bulk': how many values and letters a reading holds, each counted each time it is reached (what is shared counts as often as it is met; a slice's spare places count too). A statement '..UptoSaid' is the law's where the arguments, and the package variables that the reading takes, are together of bulk at most 1048576: NARROWER than '..Said'. Prove '..Said' where nothing that the law and all that it calls make is longer than what came in: it says more and counts as full. Else prove '..UptoSaid'. A law counts once. -/
mutual
def uptoBulk {H : Type} : DataW H → Nat
  | .lit (.string bytes) => bytes.length + 1
  | .lit _ => 1
  | .nil => 1
  | .ptr d => uptoBulk d + 1
  | .slice elems spare => uptoBulkAll elems + uptoBulkAll spare + 1
  | .agg parts => uptoBulkAll parts + 1
  | .iface _ d => uptoBulk d + 1
  | .map entries => uptoBulkEntries entries + 1
  | .held _ => 1
def uptoBulkAll {H : Type} : List (DataW H) → Nat
  | [] => 0
  | d :: r => uptoBulk d + uptoBulkAll r
def uptoBulkEntries {H : Type} : List (Lit × DataW H) → Nat
  | [] => 0
  | x :: r => uptoBulkEntry x + uptoBulkEntries r
def uptoBulkEntry {H : Type} : Lit × DataW H → Nat
  | (.string bytes, d) => bytes.length + uptoBulk d + 1
  | (_, d) => uptoBulk d + 1
 end
def uptoSmall : (H : Type) → List (DataW H) → Bool := fun _ ds => decide (uptoBulkAll ds ≤ 1048576)
def OpenSpec.upto (s : _root_.Go.ChangeSpec) : _root_.Go.OpenSpec := { _root_.Go.OpenSpec.ofChange s with cond := some uptoSmall }

/-- 'copestonelaw08.HillFeet', WHERE WHAT IT READS IS OF BULK AT MOST 1048576: true; the input reads as it did. -/
def hillFeetUptoRow : OpenClaim := { program := "ythmdhlopeponcaagreatdoor", sum := "b8cfba8d0280238e24c43ed330b2bb3e581504d77e06772ebf974cce36c83575", func := "copestone/copestonelaw08.HillFeet", spec := "hillFeet", inPlace := ["internal/abi.NoEscape", "internal/bytealg.MakeNoZero", "internal/bytealg.IndexByteString", "internal/bytealg.IndexString"], unfollowed := true, recurses := true, named := ["unicode/utf8.first", "unicode/utf8.acceptRanges", "internal/bytealg.MaxLen"], plainKeys := false, apart := false, laid := [("unicode/utf8.acceptRanges", laid_unicode_utf8_acceptRanges), ("unicode/utf8.first", laid_unicode_utf8_first)], narrowed := true }
def HillFeetUptoSaid : Prop := hillFeetUptoRow.holds Tryz.pinned (OpenSpec.upto hillFeetSpec)

/-- 'copestonelaw08.HillDigs', WHERE WHAT IT READS IS OF BULK AT MOST 1048576: true; the input reads as it did. -/
def hillDigsUptoRow : OpenClaim := { program := "ythmdhlopeponcaagreatdoor", sum := "b8cfba8d0280238e24c43ed330b2bb3e581504d77e06772ebf974cce36c83575", func := "copestone/copestonelaw08.HillDigs", spec := "hillDigs", inPlace := ["internal/abi.NoEscape", "internal/bytealg.MakeNoZero", "internal/bytealg.IndexByteString", "internal/bytealg.IndexString"], unfollowed := true, recurses := true, named := ["unicode/utf8.first", "unicode/utf8.acceptRanges", "internal/bytealg.MaxLen"], plainKeys := false, apart := false, laid := [("unicode/utf8.acceptRanges", laid_unicode_utf8_acceptRanges), ("unicode/utf8.first", laid_unicode_utf8_first)], narrowed := true }
def HillDigsUptoSaid : Prop := hillDigsUptoRow.holds Tryz.pinned (OpenSpec.upto hillDigsSpec)

/-- 'copestonelaw08.HillBest', WHERE WHAT IT READS IS OF BULK AT MOST 1048576: true; the input reads as it did. -/
def hillBestUptoRow : OpenClaim := { program := "ythmdhlopeponcaagreatdoor", sum := "b8cfba8d0280238e24c43ed330b2bb3e581504d77e06772ebf974cce36c83575", func := "copestone/copestonelaw08.HillBest", spec := "hillBest", inPlace := ["internal/abi.NoEscape", "internal/bytealg.MakeNoZero", "internal/bytealg.IndexByteString", "internal/bytealg.IndexString"], unfollowed := true, recurses := true, named := ["unicode/utf8.first", "unicode/utf8.acceptRanges", "internal/bytealg.MaxLen"], plainKeys := false, apart := false, laid := [("unicode/utf8.acceptRanges", laid_unicode_utf8_acceptRanges), ("unicode/utf8.first", laid_unicode_utf8_first)], narrowed := true }
def HillBestUptoSaid : Prop := hillBestUptoRow.holds Tryz.pinned (OpenSpec.upto hillBestSpec)

/-- 'copestonelaw08.HillRows', WHERE WHAT IT READS IS OF BULK AT MOST 1048576: true; the input reads as it did. -/
def hillRowsUptoRow : OpenClaim := { program := "ythmdhlopeponcaagreatdoor", sum := "b8cfba8d0280238e24c43ed330b2bb3e581504d77e06772ebf974cce36c83575", func := "copestone/copestonelaw08.HillRows", spec := "hillRows", inPlace := ["internal/abi.NoEscape", "internal/bytealg.MakeNoZero", "internal/bytealg.IndexByteString", "internal/bytealg.IndexString"], unfollowed := true, recurses := true, named := ["unicode/utf8.first", "unicode/utf8.acceptRanges", "internal/bytealg.MaxLen"], plainKeys := false, apart := false, laid := [("unicode/utf8.acceptRanges", laid_unicode_utf8_acceptRanges), ("unicode/utf8.first", laid_unicode_utf8_first)], narrowed := true }
def HillRowsUptoSaid : Prop := hillRowsUptoRow.holds Tryz.pinned (OpenSpec.upto hillRowsSpec)

/-- 'copestonelaw08.HillFloods', WHERE WHAT IT READS IS OF BULK AT MOST 1048576: true; the input reads as it did. -/
def hillFloodsUptoRow : OpenClaim := { program := "ythmdhlopeponcaagreatdoor", sum := "b8cfba8d0280238e24c43ed330b2bb3e581504d77e06772ebf974cce36c83575", func := "copestone/copestonelaw08.HillFloods", spec := "hillFloods", inPlace := ["internal/abi.NoEscape", "internal/bytealg.MakeNoZero", "internal/bytealg.IndexByteString", "internal/bytealg.IndexString"], unfollowed := true, recurses := true, named := ["unicode/utf8.first", "unicode/utf8.acceptRanges", "internal/bytealg.MaxLen"], plainKeys := false, apart := false, laid := [("unicode/utf8.acceptRanges", laid_unicode_utf8_acceptRanges), ("unicode/utf8.first", laid_unicode_utf8_first)], narrowed := true }
def HillFloodsUptoSaid : Prop := hillFloodsUptoRow.holds Tryz.pinned (OpenSpec.upto hillFloodsSpec)

/-- 'copestonelaw08.HillTurned', WHERE WHAT IT READS IS OF BULK AT MOST 1048576: true; the input reads as it did. -/
def hillTurnedUptoRow : OpenClaim := { program := "ythmdhlopeponcaagreatdoor", sum := "b8cfba8d0280238e24c43ed330b2bb3e581504d77e06772ebf974cce36c83575", func := "copestone/copestonelaw08.HillTurned", spec := "hillTurned", inPlace := ["internal/abi.NoEscape", "internal/bytealg.MakeNoZero", "internal/bytealg.IndexByteString", "internal/bytealg.IndexString"], unfollowed := true, recurses := true, named := ["unicode/utf8.first", "unicode/utf8.acceptRanges", "internal/bytealg.MaxLen"], plainKeys := false, apart := false, laid := [("unicode/utf8.acceptRanges", laid_unicode_utf8_acceptRanges), ("unicode/utf8.first", laid_unicode_utf8_first)], narrowed := true }
def HillTurnedUptoSaid : Prop := hillTurnedUptoRow.holds Tryz.pinned (OpenSpec.upto hillTurnedSpec)

/-- 'copestonelaw08.HillStands', WHERE WHAT IT READS IS OF BULK AT MOST 1048576: true; the input reads as it did. -/
def hillStandsUptoRow : OpenClaim := { program := "ythmdhlopeponcaagreatdoor", sum := "b8cfba8d0280238e24c43ed330b2bb3e581504d77e06772ebf974cce36c83575", func := "copestone/copestonelaw08.HillStands", spec := "hillStands", inPlace := ["internal/abi.NoEscape", "internal/bytealg.MakeNoZero", "internal/bytealg.IndexByteString", "internal/bytealg.IndexString"], unfollowed := true, recurses := true, named := ["unicode/utf8.first", "unicode/utf8.acceptRanges", "internal/bytealg.MaxLen"], plainKeys := false, apart := false, laid := [("unicode/utf8.acceptRanges", laid_unicode_utf8_acceptRanges), ("unicode/utf8.first", laid_unicode_utf8_first)], narrowed := true }
def HillStandsUptoSaid : Prop := hillStandsUptoRow.holds Tryz.pinned (OpenSpec.upto hillStandsSpec)

/-- 'copestonelaw08.HillMeasures', WHERE WHAT IT READS IS OF BULK AT MOST 1048576: true; the input reads as it did. -/
def hillMeasuresUptoRow : OpenClaim := { program := "ythmdhlopeponcaagreatdoor", sum := "b8cfba8d0280238e24c43ed330b2bb3e581504d77e06772ebf974cce36c83575", func := "copestone/copestonelaw08.HillMeasures", spec := "hillMeasures", inPlace := ["internal/abi.NoEscape", "internal/bytealg.MakeNoZero", "internal/bytealg.IndexByteString", "internal/bytealg.IndexString"], unfollowed := true, recurses := true, named := ["unicode/utf8.first", "unicode/utf8.acceptRanges", "internal/bytealg.MaxLen"], plainKeys := false, apart := false, laid := [("unicode/utf8.acceptRanges", laid_unicode_utf8_acceptRanges), ("unicode/utf8.first", laid_unicode_utf8_first)], narrowed := true }
def HillMeasuresUptoSaid : Prop := hillMeasuresUptoRow.holds Tryz.pinned (OpenSpec.upto hillMeasuresSpec)

/-- 'copestonelaw08.HillAreas', WHERE WHAT IT READS IS OF BULK AT MOST 1048576: true; the input reads as it did. -/
def hillAreasUptoRow : OpenClaim := { program := "ythmdhlopeponcaagreatdoor", sum := "b8cfba8d0280238e24c43ed330b2bb3e581504d77e06772ebf974cce36c83575", func := "copestone/copestonelaw08.HillAreas", spec := "hillAreas", inPlace := ["internal/abi.NoEscape", "internal/bytealg.MakeNoZero", "internal/bytealg.IndexByteString", "internal/bytealg.IndexString"], unfollowed := true, recurses := true, named := ["unicode/utf8.first", "unicode/utf8.acceptRanges", "internal/bytealg.MaxLen"], plainKeys := false, apart := false, laid := [("unicode/utf8.acceptRanges", laid_unicode_utf8_acceptRanges), ("unicode/utf8.first", laid_unicode_utf8_first)], narrowed := true }
def HillAreasUptoSaid : Prop := hillAreasUptoRow.holds Tryz.pinned (OpenSpec.upto hillAreasSpec)

/-- 'copestonelaw08.HillRises', WHERE WHAT IT READS IS OF BULK AT MOST 1048576: true; the input reads as it did. -/
def hillRisesUptoRow : OpenClaim := { program := "ythmdhlopeponcaagreatdoor", sum := "b8cfba8d0280238e24c43ed330b2bb3e581504d77e06772ebf974cce36c83575", func := "copestone/copestonelaw08.HillRises", spec := "hillRises", inPlace := ["internal/abi.NoEscape", "internal/bytealg.MakeNoZero", "internal/bytealg.IndexByteString", "internal/bytealg.IndexString"], unfollowed := true, recurses := true, named := ["unicode/utf8.first", "unicode/utf8.acceptRanges", "internal/bytealg.MaxLen"], plainKeys := false, apart := false, laid := [("unicode/utf8.acceptRanges", laid_unicode_utf8_acceptRanges), ("unicode/utf8.first", laid_unicode_utf8_first)], narrowed := true }
def HillRisesUptoSaid : Prop := hillRisesUptoRow.holds Tryz.pinned (OpenSpec.upto hillRisesSpec)

/-- 'copestonelaw08.HillGrounds', WHERE WHAT IT READS IS OF BULK AT MOST 1048576: true; the input reads as it did. -/
def hillGroundsUptoRow : OpenClaim := { program := "ythmdhlopeponcaagreatdoor", sum := "b8cfba8d0280238e24c43ed330b2bb3e581504d77e06772ebf974cce36c83575", func := "copestone/copestonelaw08.HillGrounds", spec := "hillGrounds", inPlace := ["internal/abi.NoEscape", "internal/bytealg.MakeNoZero", "internal/bytealg.IndexByteString", "internal/bytealg.IndexString"], unfollowed := true, recurses := true, named := ["unicode/utf8.first", "unicode/utf8.acceptRanges", "internal/bytealg.MaxLen"], plainKeys := false, apart := false, laid := [("unicode/utf8.acceptRanges", laid_unicode_utf8_acceptRanges), ("unicode/utf8.first", laid_unicode_utf8_first)], narrowed := true }
def HillGroundsUptoSaid : Prop := hillGroundsUptoRow.holds Tryz.pinned (OpenSpec.upto hillGroundsSpec)

/-- 'copestonelaw08.HillGreatest', WHERE WHAT IT READS IS OF BULK AT MOST 1048576: true; the input reads as it did. -/
def hillGreatestUptoRow : OpenClaim := { program := "ythmdhlopeponcaagreatdoor", sum := "b8cfba8d0280238e24c43ed330b2bb3e581504d77e06772ebf974cce36c83575", func := "copestone/copestonelaw08.HillGreatest", spec := "hillGreatest", inPlace := ["internal/abi.NoEscape", "internal/bytealg.MakeNoZero", "internal/bytealg.IndexByteString", "internal/bytealg.IndexString"], unfollowed := true, recurses := true, named := ["unicode/utf8.first", "unicode/utf8.acceptRanges", "internal/bytealg.MaxLen"], plainKeys := false, apart := false, laid := [("unicode/utf8.acceptRanges", laid_unicode_utf8_acceptRanges), ("unicode/utf8.first", laid_unicode_utf8_first)], narrowed := true }
def HillGreatestUptoSaid : Prop := hillGreatestUptoRow.holds Tryz.pinned (OpenSpec.upto hillGreatestSpec)

/-- 'copestonelaw08.HillCheapest', WHERE WHAT IT READS IS OF BULK AT MOST 1048576: true; the input reads as it did. -/
def hillCheapestUptoRow : OpenClaim := { program := "ythmdhlopeponcaagreatdoor", sum := "b8cfba8d0280238e24c43ed330b2bb3e581504d77e06772ebf974cce36c83575", func := "copestone/copestonelaw08.HillCheapest", spec := "hillCheapest", inPlace := ["internal/abi.NoEscape", "internal/bytealg.MakeNoZero", "internal/bytealg.IndexByteString", "internal/bytealg.IndexString"], unfollowed := true, recurses := true, named := ["unicode/utf8.first", "unicode/utf8.acceptRanges", "internal/bytealg.MaxLen"], plainKeys := false, apart := false, laid := [("unicode/utf8.acceptRanges", laid_unicode_utf8_acceptRanges), ("unicode/utf8.first", laid_unicode_utf8_first)], narrowed := true }
def HillCheapestUptoSaid : Prop := hillCheapestUptoRow.holds Tryz.pinned (OpenSpec.upto hillCheapestSpec)

end Rows
end Go.Proofs.YthmdhlopeponcaaGreatDoor
