/-
  NARROWER THAN 'FOR EVERY INPUT', by the rows' own cells (each row's printed sentence says how): TopRows: laid · TopGrounds: laid.
  DERIVED. THE GIVEN ROWS OF THIS SEAT. 2 by the template 'for every input the law returns true; each argument reads behind the call as it read before'; 0 by the template 'total and deterministic' (their statements: YtjpojeapdgjbhaaGreatDoorTotals.lean).
  GIVEN WITH THE SEED: the statements are not yours to turn. If you find one false, say at which input.
  Laid BY PROGRAM, IN A SANDBOX (cutbox-rows.mjs): the forced cells as the released guide's own fill.sh prints them over the translation ce62910bf9ffd309… (all of the seat's roots in one cut). By AI agents, Wed Nov 11 2026. No macro, syntax, notation, axiom, sorry.
-/
import Derived.Test.YtjpojeapdgjbhaaGreatDoorChecked
import GoSem.PinnedTables
import GoSem.Claim
import GoSem.ClaimJoined
import GoSem.ClaimMapViews
import Derived.JoinedTies
import Derived.KernelRfl
namespace Go.Proofs.YtjpojeapdgjbhaaGreatDoor
/- THE CELL 'sum', in the pinned program and in every row, IS THE sha256 OF THE DUMP (.gsa) THAT YtjpojeapdgjbhaaGreatDoorProg.lean LOADS. Nothing in Lean hashes anything: it is a label: what it is worth is what the hold of that sum in a sandbox is worth. -/
noncomputable def Tryz.pinned : Pinned := { name := "ytjpojeapdgjbhaagreatdoor", sum := "ce62910bf9ffd309c42c3b46ce2c0d5a3ce3aec2359c206ef724d6f056f90752", checked := Tryz.checked }
namespace Rows
def none {H : Type} : Left H := { results := [], args := [] }

/- WHAT THE LISTED PACKAGE-LEVEL VARIABLES READ AS WHEN THE CALL BEGINS. Each datum BY PROGRAM (the guide's laid-datum.mjs) off the statement by which the dump's own 'gosem.cut.vars' lays the variable. In a bare row this is a premise. The card (YtjpojeapdgjbhaaGreatDoorCards.lean) ties it to the program's text. -/
def laid_unicode_utf8_acceptRanges {H : Type} : DataW H := .agg [.agg [.lit (.int .u8 128), .lit (.int .u8 191)], .agg [.lit (.int .u8 160), .lit (.int .u8 191)], .agg [.lit (.int .u8 128), .lit (.int .u8 159)], .agg [.lit (.int .u8 144), .lit (.int .u8 191)], .agg [.lit (.int .u8 128), .lit (.int .u8 143)], .agg [.lit (.int .u8 0), .lit (.int .u8 0)], .agg [.lit (.int .u8 0), .lit (.int .u8 0)], .agg [.lit (.int .u8 0), .lit (.int .u8 0)], .agg [.lit (.int .u8 0), .lit (.int .u8 0)], .agg [.lit (.int .u8 0), .lit (.int .u8 0)], .agg [.lit (.int .u8 0), .lit (.int .u8 0)], .agg [.lit (.int .u8 0), .lit (.int .u8 0)], .agg [.lit (.int .u8 0), .lit (.int .u8 0)], .agg [.lit (.int .u8 0), .lit (.int .u8 0)], .agg [.lit (.int .u8 0), .lit (.int .u8 0)], .agg [.lit (.int .u8 0), .lit (.int .u8 0)]]
def laid_copestone_stone_ways {H : Type} : DataW H := .iface "func table" (.agg [.iface "func" (.lit (.string [99, 111, 112, 101, 115, 116, 111, 110, 101, 47, 115, 116, 111, 110, 101, 46, 119, 97, 121, 115, 36, 49])), .iface "func" (.lit (.string [99, 111, 112, 101, 115, 116, 111, 110, 101, 47, 115, 116, 111, 110, 101, 46, 119, 97, 121, 115, 36, 50])), .iface "func" (.lit (.string [99, 111, 112, 101, 115, 116, 111, 110, 101, 47, 115, 116, 111, 110, 101, 46, 119, 97, 121, 115, 36, 51])), .iface "func" (.lit (.string [99, 111, 112, 101, 115, 116, 111, 110, 101, 47, 115, 116, 111, 110, 101, 46, 119, 97, 121, 115, 36, 52]))])
/-- One of Go's own tables, pinned by name: the form's constant. -/
def laid_unicode_utf8_first : DataW Unit := Go.Pinned.utf8First

/-- 'copestonetop.TopRows': WHATEVER THE INPUT: true; the input reads as it did. -/
def topRowsSpec : ChangeSpec := { name := "topRows", fn := fun _ => fun
  | [d1, d2] => { results := [.lit (.bool true)], args := [d1, d2] }
  | _ => none }
def topRowsRow : OpenClaim := { program := "ytjpojeapdgjbhaagreatdoor", sum := "ce62910bf9ffd309c42c3b46ce2c0d5a3ce3aec2359c206ef724d6f056f90752", func := "copestone/copestonetop.TopRows", spec := "topRows", inPlace := ["internal/abi.NoEscape", "internal/bytealg.MakeNoZero", "internal/bytealg.IndexByteString", "internal/bytealg.IndexString"], unfollowed := true, recurses := true, named := ["copestone/stone.ways", "unicode/utf8.first", "unicode/utf8.acceptRanges", "internal/bytealg.MaxLen"], apart := false, laid := [("unicode/utf8.acceptRanges", laid_unicode_utf8_acceptRanges), ("copestone/stone.ways", laid_copestone_stone_ways), ("unicode/utf8.first", laid_unicode_utf8_first)] }
def TopRowsSaid : Prop := topRowsRow.holds Tryz.pinned (OpenSpec.ofChange topRowsSpec)

/-- ITS FALSE NEIGHBOUR: 'it returns false'. Refute it at one input. -/
def topRowsWrong : ChangeSpec := { name := "topRows", fn := fun _ => fun
  | [d1, d2] => { results := [.lit (.bool false)], args := [d1, d2] }
  | _ => none }
def TopRowsWrongFalsely : Prop := topRowsRow.holds Tryz.pinned (OpenSpec.ofChange topRowsWrong)

/-- 'copestonetop.TopGrounds': WHATEVER THE INPUT: true; the input reads as it did. -/
def topGroundsSpec : ChangeSpec := { name := "topGrounds", fn := fun _ => fun
  | [d1, d2, d3, d4, d5] => { results := [.lit (.bool true)], args := [d1, d2, d3, d4, d5] }
  | _ => none }
def topGroundsRow : OpenClaim := { program := "ytjpojeapdgjbhaagreatdoor", sum := "ce62910bf9ffd309c42c3b46ce2c0d5a3ce3aec2359c206ef724d6f056f90752", func := "copestone/copestonetop.TopGrounds", spec := "topGrounds", inPlace := ["internal/abi.NoEscape", "internal/bytealg.MakeNoZero", "internal/bytealg.IndexByteString", "internal/bytealg.IndexString"], unfollowed := true, recurses := true, named := ["copestone/stone.ways", "unicode/utf8.first", "unicode/utf8.acceptRanges", "internal/bytealg.MaxLen"], apart := false, laid := [("unicode/utf8.acceptRanges", laid_unicode_utf8_acceptRanges), ("copestone/stone.ways", laid_copestone_stone_ways), ("unicode/utf8.first", laid_unicode_utf8_first)] }
def TopGroundsSaid : Prop := topGroundsRow.holds Tryz.pinned (OpenSpec.ofChange topGroundsSpec)

/-- ITS FALSE NEIGHBOUR: 'it returns false'. Refute it at one input. -/
def topGroundsWrong : ChangeSpec := { name := "topGrounds", fn := fun _ => fun
  | [d1, d2, d3, d4, d5] => { results := [.lit (.bool false)], args := [d1, d2, d3, d4, d5] }
  | _ => none }
def TopGroundsWrongFalsely : Prop := topGroundsRow.holds Tryz.pinned (OpenSpec.ofChange topGroundsWrong)

/- THE SECOND FORM. 'bulk': how many values and letters a reading holds, each counted each time it is reached (what is shared counts as often as it is met; a slice's spare places count too). A statement '..UptoSaid' is the law's where the arguments, and the package variables that the reading takes, are together of bulk at most 1048576: NARROWER than '..Said'. Prove '..Said' where nothing that the law and all that it calls make is longer than what came in: it says more and counts as full. Else prove '..UptoSaid'. A law counts once. -/
mutual
def uptoBulk {H : Type} : DataW H → Nat
  | .lit (.string bytes) => bytes.length + 1
  | .lit _ => 1
  | .nil => 1
  | .ptr d => uptoBulk d + 1
  | .slice elems spare => uptoBulkAll elems + uptoBulkAll spare + 1
  | .agg parts => uptoBulkAll parts + 1
  | .iface _ d => uptoBulk d + 1
  | .map entries => uptoBulkEntries entries + 1
  | .held _ => 1
def uptoBulkAll {H : Type} : List (DataW H) → Nat
  | [] => 0
  | d :: r => uptoBulk d + uptoBulkAll r
def uptoBulkEntries {H : Type} : List (Lit × DataW H) → Nat
  | [] => 0
  | x :: r => uptoBulkEntry x + uptoBulkEntries r
def uptoBulkEntry {H : Type} : Lit × DataW H → Nat
  | (.string bytes, d) => bytes.length + uptoBulk d + 1
  | (_, d) => uptoBulk d + 1
 end
def uptoSmall : (H : Type) → List (DataW H) → Bool := fun _ ds => decide (uptoBulkAll ds ≤ 1048576)
def OpenSpec.upto (s : _root_.Go.ChangeSpec) : _root_.Go.OpenSpec := { _root_.Go.OpenSpec.ofChange s with cond := some uptoSmall }

/-- 'copestonetop.TopRows', WHERE WHAT IT READS IS OF BULK AT MOST 1048576: true; the input reads as it did. -/
def topRowsUptoRow : OpenClaim := { program := "ytjpojeapdgjbhaagreatdoor", sum := "ce62910bf9ffd309c42c3b46ce2c0d5a3ce3aec2359c206ef724d6f056f90752", func := "copestone/copestonetop.TopRows", spec := "topRows", inPlace := ["internal/abi.NoEscape", "internal/bytealg.MakeNoZero", "internal/bytealg.IndexByteString", "internal/bytealg.IndexString"], unfollowed := true, recurses := true, named := ["copestone/stone.ways", "unicode/utf8.first", "unicode/utf8.acceptRanges", "internal/bytealg.MaxLen"], apart := false, laid := [("unicode/utf8.acceptRanges", laid_unicode_utf8_acceptRanges), ("copestone/stone.ways", laid_copestone_stone_ways), ("unicode/utf8.first", laid_unicode_utf8_first)], narrowed := true }
def TopRowsUptoSaid : Prop := topRowsUptoRow.holds Tryz.pinned (OpenSpec.upto topRowsSpec)

/-- 'copestonetop.TopGrounds', WHERE WHAT IT READS IS OF BULK AT MOST 1048576: true; the input reads as it did. -/
def topGroundsUptoRow : OpenClaim := { program := "ytjpojeapdgjbhaagreatdoor", sum := "ce62910bf9ffd309c42c3b46ce2c0d5a3ce3aec2359c206ef724d6f056f90752", func := "copestone/copestonetop.TopGrounds", spec := "topGrounds", inPlace := ["internal/abi.NoEscape", "internal/bytealg.MakeNoZero", "internal/bytealg.IndexByteString", "internal/bytealg.IndexString"], unfollowed := true, recurses := true, named := ["copestone/stone.ways", "unicode/utf8.first", "unicode/utf8.acceptRanges", "internal/bytealg.MaxLen"], apart := false, laid := [("unicode/utf8.acceptRanges", laid_unicode_utf8_acceptRanges), ("copestone/stone.ways", laid_copestone_stone_ways), ("unicode/utf8.first", laid_unicode_utf8_first)], narrowed := true }
def TopGroundsUptoSaid : Prop := topGroundsUptoRow.holds Tryz.pinned (OpenSpec.upto topGroundsSpec)

end Rows
end Go.Proofs.YtjpojeapdgjbhaaGreatDoor
