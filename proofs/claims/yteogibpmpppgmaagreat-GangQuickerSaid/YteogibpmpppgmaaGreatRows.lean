/-
  No cell of these rows narrows 'for every input' (looked for: loops, veiled, ifaces, maps, wideKeys, modest, calm, conditions, laid).
  DERIVED. THE GIVEN ROWS OF THIS SEAT. 8 by the template 'for every input the law returns true; each argument reads behind the call as it read before'; 0 by the template 'total and deterministic' (their statements: YteogibpmpppgmaaGreatTotals.lean).
  GIVEN WITH THE SEED: the statements are not yours to turn. If you find one false, say at which input.
  Laid BY PROGRAM, IN A SANDBOX (cutbox-rows.mjs): the forced cells as the released guide's own fill.sh prints them over the translation 5292d22ba285feae… (all of the seat's roots in one cut). By AI agents, Wed Nov 11 2026. No macro, syntax, notation, axiom, sorry.
-/
import Derived.Test.YteogibpmpppgmaaGreatChecked
import GoSem.Claim
import GoSem.ClaimJoined
import GoSem.ClaimMapViews
import Derived.JoinedTies
import Derived.KernelRfl
namespace Go.Proofs.YteogibpmpppgmaaGreat
/- THE CELL 'sum', in the pinned program and in every row, IS THE sha256 OF THE DUMP (.gsa) THAT YteogibpmpppgmaaGreatProg.lean LOADS. Nothing in Lean hashes anything: it is a label: what it is worth is what the hold of that sum in a sandbox is worth. -/
noncomputable def Tryz.pinned : Pinned := { name := "yteogibpmpppgmaagreat", sum := "5292d22ba285feae3a232dc9007d33b6c95f1d5f4e4d8a9de822a659da8b9085", checked := Tryz.checked }
namespace Rows
def none {H : Type} : Left H := { results := [], args := [] }

/-- 'copestonelaw12.GangDays': WHATEVER THE INPUT: true; the input reads as it did. -/
def gangDaysSpec : ChangeSpec := { name := "gangDays", fn := fun _ => fun
  | [d1, d2, d3] => { results := [.lit (.bool true)], args := [d1, d2, d3] }
  | _ => none }
def gangDaysRow : OpenClaim := { program := "yteogibpmpppgmaagreat", sum := "5292d22ba285feae3a232dc9007d33b6c95f1d5f4e4d8a9de822a659da8b9085", func := "copestone/copestonelaw12.GangDays", spec := "gangDays", unfollowed := true, recurses := true, apart := false }
def GangDaysSaid : Prop := gangDaysRow.holds Tryz.pinned (OpenSpec.ofChange gangDaysSpec)

/-- ITS FALSE NEIGHBOUR: 'it returns false'. Refute it at one input. -/
def gangDaysWrong : ChangeSpec := { name := "gangDays", fn := fun _ => fun
  | [d1, d2, d3] => { results := [.lit (.bool false)], args := [d1, d2, d3] }
  | _ => none }
def GangDaysWrongFalsely : Prop := gangDaysRow.holds Tryz.pinned (OpenSpec.ofChange gangDaysWrong)

/-- 'copestonelaw12.GangProves': WHATEVER THE INPUT: true; the input reads as it did. -/
def gangProvesSpec : ChangeSpec := { name := "gangProves", fn := fun _ => fun
  | [d1, d2, d3, d4, d5] => { results := [.lit (.bool true)], args := [d1, d2, d3, d4, d5] }
  | _ => none }
def gangProvesRow : OpenClaim := { program := "yteogibpmpppgmaagreat", sum := "5292d22ba285feae3a232dc9007d33b6c95f1d5f4e4d8a9de822a659da8b9085", func := "copestone/copestonelaw12.GangProves", spec := "gangProves", unfollowed := true, recurses := true, apart := false }
def GangProvesSaid : Prop := gangProvesRow.holds Tryz.pinned (OpenSpec.ofChange gangProvesSpec)

/-- ITS FALSE NEIGHBOUR: 'it returns false'. Refute it at one input. -/
def gangProvesWrong : ChangeSpec := { name := "gangProves", fn := fun _ => fun
  | [d1, d2, d3, d4, d5] => { results := [.lit (.bool false)], args := [d1, d2, d3, d4, d5] }
  | _ => none }
def GangProvesWrongFalsely : Prop := gangProvesRow.holds Tryz.pinned (OpenSpec.ofChange gangProvesWrong)

/-- 'copestonelaw12.GangQuicker': WHATEVER THE INPUT: true; the input reads as it did. -/
def gangQuickerSpec : ChangeSpec := { name := "gangQuicker", fn := fun _ => fun
  | [d1, d2, d3, d4, d5, d6] => { results := [.lit (.bool true)], args := [d1, d2, d3, d4, d5, d6] }
  | _ => none }
def gangQuickerRow : OpenClaim := { program := "yteogibpmpppgmaagreat", sum := "5292d22ba285feae3a232dc9007d33b6c95f1d5f4e4d8a9de822a659da8b9085", func := "copestone/copestonelaw12.GangQuicker", spec := "gangQuicker", unfollowed := true, recurses := true, apart := false }
def GangQuickerSaid : Prop := gangQuickerRow.holds Tryz.pinned (OpenSpec.ofChange gangQuickerSpec)

/-- ITS FALSE NEIGHBOUR: 'it returns false'. Refute it at one input. -/
def gangQuickerWrong : ChangeSpec := { name := "gangQuicker", fn := fun _ => fun
  | [d1, d2, d3, d4, d5, d6] => { results := [.lit (.bool false)], args := [d1, d2, d3, d4, d5, d6] }
  | _ => none }
def GangQuickerWrongFalsely : Prop := gangQuickerRow.holds Tryz.pinned (OpenSpec.ofChange gangQuickerWrong)

/-- 'copestonelaw12.GangAllotted': WHATEVER THE INPUT: true; the input reads as it did. -/
def gangAllottedSpec : ChangeSpec := { name := "gangAllotted", fn := fun _ => fun
  | [d1, d2, d3, d4] => { results := [.lit (.bool true)], args := [d1, d2, d3, d4] }
  | _ => none }
def gangAllottedRow : OpenClaim := { program := "yteogibpmpppgmaagreat", sum := "5292d22ba285feae3a232dc9007d33b6c95f1d5f4e4d8a9de822a659da8b9085", func := "copestone/copestonelaw12.GangAllotted", spec := "gangAllotted", unfollowed := true, recurses := true, apart := false }
def GangAllottedSaid : Prop := gangAllottedRow.holds Tryz.pinned (OpenSpec.ofChange gangAllottedSpec)

/-- ITS FALSE NEIGHBOUR: 'it returns false'. Refute it at one input. -/
def gangAllottedWrong : ChangeSpec := { name := "gangAllotted", fn := fun _ => fun
  | [d1, d2, d3, d4] => { results := [.lit (.bool false)], args := [d1, d2, d3, d4] }
  | _ => none }
def GangAllottedWrongFalsely : Prop := gangAllottedRow.holds Tryz.pinned (OpenSpec.ofChange gangAllottedWrong)

/-- 'copestonelaw12.GangClaims': WHATEVER THE INPUT: true; the input reads as it did. -/
def gangClaimsSpec : ChangeSpec := { name := "gangClaims", fn := fun _ => fun
  | [d1, d2, d3, d4, d5] => { results := [.lit (.bool true)], args := [d1, d2, d3, d4, d5] }
  | _ => none }
def gangClaimsRow : OpenClaim := { program := "yteogibpmpppgmaagreat", sum := "5292d22ba285feae3a232dc9007d33b6c95f1d5f4e4d8a9de822a659da8b9085", func := "copestone/copestonelaw12.GangClaims", spec := "gangClaims", unfollowed := true, recurses := true, apart := false }
def GangClaimsSaid : Prop := gangClaimsRow.holds Tryz.pinned (OpenSpec.ofChange gangClaimsSpec)

/-- ITS FALSE NEIGHBOUR: 'it returns false'. Refute it at one input. -/
def gangClaimsWrong : ChangeSpec := { name := "gangClaims", fn := fun _ => fun
  | [d1, d2, d3, d4, d5] => { results := [.lit (.bool false)], args := [d1, d2, d3, d4, d5] }
  | _ => none }
def GangClaimsWrongFalsely : Prop := gangClaimsRow.holds Tryz.pinned (OpenSpec.ofChange gangClaimsWrong)

/-- 'copestonelaw12.GangCarries': WHATEVER THE INPUT: true; the input reads as it did. -/
def gangCarriesSpec : ChangeSpec := { name := "gangCarries", fn := fun _ => fun
  | [d1, d2] => { results := [.lit (.bool true)], args := [d1, d2] }
  | _ => none }
def gangCarriesRow : OpenClaim := { program := "yteogibpmpppgmaagreat", sum := "5292d22ba285feae3a232dc9007d33b6c95f1d5f4e4d8a9de822a659da8b9085", func := "copestone/copestonelaw12.GangCarries", spec := "gangCarries", unfollowed := true, recurses := true, apart := false }
def GangCarriesSaid : Prop := gangCarriesRow.holds Tryz.pinned (OpenSpec.ofChange gangCarriesSpec)

/-- ITS FALSE NEIGHBOUR: 'it returns false'. Refute it at one input. -/
def gangCarriesWrong : ChangeSpec := { name := "gangCarries", fn := fun _ => fun
  | [d1, d2] => { results := [.lit (.bool false)], args := [d1, d2] }
  | _ => none }
def GangCarriesWrongFalsely : Prop := gangCarriesRow.holds Tryz.pinned (OpenSpec.ofChange gangCarriesWrong)

/-- 'copestonelaw12.GangPays': WHATEVER THE INPUT: true; the input reads as it did. -/
def gangPaysSpec : ChangeSpec := { name := "gangPays", fn := fun _ => fun
  | [d1, d2, d3, d4, d5] => { results := [.lit (.bool true)], args := [d1, d2, d3, d4, d5] }
  | _ => none }
def gangPaysRow : OpenClaim := { program := "yteogibpmpppgmaagreat", sum := "5292d22ba285feae3a232dc9007d33b6c95f1d5f4e4d8a9de822a659da8b9085", func := "copestone/copestonelaw12.GangPays", spec := "gangPays", unfollowed := true, recurses := true, apart := false }
def GangPaysSaid : Prop := gangPaysRow.holds Tryz.pinned (OpenSpec.ofChange gangPaysSpec)

/-- ITS FALSE NEIGHBOUR: 'it returns false'. Refute it at one input. -/
def gangPaysWrong : ChangeSpec := { name := "gangPays", fn := fun _ => fun
  | [d1, d2, d3, d4, d5] => { results := [.lit (.bool false)], args := [d1, d2, d3, d4, d5] }
  | _ => none }
def GangPaysWrongFalsely : Prop := gangPaysRow.holds Tryz.pinned (OpenSpec.ofChange gangPaysWrong)

/-- 'copestonelaw12.GangCovers': WHATEVER THE INPUT: true; the input reads as it did. -/
def gangCoversSpec : ChangeSpec := { name := "gangCovers", fn := fun _ => fun
  | [d1, d2, d3, d4, d5] => { results := [.lit (.bool true)], args := [d1, d2, d3, d4, d5] }
  | _ => none }
def gangCoversRow : OpenClaim := { program := "yteogibpmpppgmaagreat", sum := "5292d22ba285feae3a232dc9007d33b6c95f1d5f4e4d8a9de822a659da8b9085", func := "copestone/copestonelaw12.GangCovers", spec := "gangCovers", unfollowed := true, recurses := true, apart := false }
def GangCoversSaid : Prop := gangCoversRow.holds Tryz.pinned (OpenSpec.ofChange gangCoversSpec)

/-- ITS FALSE NEIGHBOUR: 'it returns false'. Refute it at one input. -/
def gangCoversWrong : ChangeSpec := { name := "gangCovers", fn := fun _ => fun
  | [d1, d2, d3, d4, d5] => { results := [.lit (.bool false)], args := [d1, d2, d3, d4, d5] }
  | _ => none }
def GangCoversWrongFalsely : Prop := gangCoversRow.holds Tryz.pinned (OpenSpec.ofChange gangCoversWrong)

/- THE SECOND FORM. 'bulk': how many values and letters a reading holds, each counted each time it is reached (what is shared counts as often as it is met; a slice's spare places count too). A statement '..UptoSaid' is the law's where the arguments, and the package variables that the reading takes, are together of bulk at most 1048576: NARROWER than '..Said'. Prove '..Said' where nothing that the law and all that it calls make is longer than what came in: it says more and counts as full. Else prove '..UptoSaid'. A law counts once. -/
mutual
def uptoBulk {H : Type} : DataW H → Nat
  | .lit (.string bytes) => bytes.length + 1
  | .lit _ => 1
  | .nil => 1
  | .ptr d => uptoBulk d + 1
  | .slice elems spare => uptoBulkAll elems + uptoBulkAll spare + 1
  | .agg parts => uptoBulkAll parts + 1
  | .iface _ d => uptoBulk d + 1
  | .map entries => uptoBulkEntries entries + 1
  | .held _ => 1
def uptoBulkAll {H : Type} : List (DataW H) → Nat
  | [] => 0
  | d :: r => uptoBulk d + uptoBulkAll r
def uptoBulkEntries {H : Type} : List (Lit × DataW H) → Nat
  | [] => 0
  | x :: r => uptoBulkEntry x + uptoBulkEntries r
def uptoBulkEntry {H : Type} : Lit × DataW H → Nat
  | (.string bytes, d) => bytes.length + uptoBulk d + 1
  | (_, d) => uptoBulk d + 1
 end
def uptoSmall : (H : Type) → List (DataW H) → Bool := fun _ ds => decide (uptoBulkAll ds ≤ 1048576)
def OpenSpec.upto (s : _root_.Go.ChangeSpec) : _root_.Go.OpenSpec := { _root_.Go.OpenSpec.ofChange s with cond := some uptoSmall }

/-- 'copestonelaw12.GangDays', WHERE WHAT IT READS IS OF BULK AT MOST 1048576: true; the input reads as it did. -/
def gangDaysUptoRow : OpenClaim := { program := "yteogibpmpppgmaagreat", sum := "5292d22ba285feae3a232dc9007d33b6c95f1d5f4e4d8a9de822a659da8b9085", func := "copestone/copestonelaw12.GangDays", spec := "gangDays", unfollowed := true, recurses := true, apart := false, narrowed := true }
def GangDaysUptoSaid : Prop := gangDaysUptoRow.holds Tryz.pinned (OpenSpec.upto gangDaysSpec)

/-- 'copestonelaw12.GangProves', WHERE WHAT IT READS IS OF BULK AT MOST 1048576: true; the input reads as it did. -/
def gangProvesUptoRow : OpenClaim := { program := "yteogibpmpppgmaagreat", sum := "5292d22ba285feae3a232dc9007d33b6c95f1d5f4e4d8a9de822a659da8b9085", func := "copestone/copestonelaw12.GangProves", spec := "gangProves", unfollowed := true, recurses := true, apart := false, narrowed := true }
def GangProvesUptoSaid : Prop := gangProvesUptoRow.holds Tryz.pinned (OpenSpec.upto gangProvesSpec)

/-- 'copestonelaw12.GangQuicker', WHERE WHAT IT READS IS OF BULK AT MOST 1048576: true; the input reads as it did. -/
def gangQuickerUptoRow : OpenClaim := { program := "yteogibpmpppgmaagreat", sum := "5292d22ba285feae3a232dc9007d33b6c95f1d5f4e4d8a9de822a659da8b9085", func := "copestone/copestonelaw12.GangQuicker", spec := "gangQuicker", unfollowed := true, recurses := true, apart := false, narrowed := true }
def GangQuickerUptoSaid : Prop := gangQuickerUptoRow.holds Tryz.pinned (OpenSpec.upto gangQuickerSpec)

/-- 'copestonelaw12.GangAllotted', WHERE WHAT IT READS IS OF BULK AT MOST 1048576: true; the input reads as it did. -/
def gangAllottedUptoRow : OpenClaim := { program := "yteogibpmpppgmaagreat", sum := "5292d22ba285feae3a232dc9007d33b6c95f1d5f4e4d8a9de822a659da8b9085", func := "copestone/copestonelaw12.GangAllotted", spec := "gangAllotted", unfollowed := true, recurses := true, apart := false, narrowed := true }
def GangAllottedUptoSaid : Prop := gangAllottedUptoRow.holds Tryz.pinned (OpenSpec.upto gangAllottedSpec)

/-- 'copestonelaw12.GangClaims', WHERE WHAT IT READS IS OF BULK AT MOST 1048576: true; the input reads as it did. -/
def gangClaimsUptoRow : OpenClaim := { program := "yteogibpmpppgmaagreat", sum := "5292d22ba285feae3a232dc9007d33b6c95f1d5f4e4d8a9de822a659da8b9085", func := "copestone/copestonelaw12.GangClaims", spec := "gangClaims", unfollowed := true, recurses := true, apart := false, narrowed := true }
def GangClaimsUptoSaid : Prop := gangClaimsUptoRow.holds Tryz.pinned (OpenSpec.upto gangClaimsSpec)

/-- 'copestonelaw12.GangCarries', WHERE WHAT IT READS IS OF BULK AT MOST 1048576: true; the input reads as it did. -/
def gangCarriesUptoRow : OpenClaim := { program := "yteogibpmpppgmaagreat", sum := "5292d22ba285feae3a232dc9007d33b6c95f1d5f4e4d8a9de822a659da8b9085", func := "copestone/copestonelaw12.GangCarries", spec := "gangCarries", unfollowed := true, recurses := true, apart := false, narrowed := true }
def GangCarriesUptoSaid : Prop := gangCarriesUptoRow.holds Tryz.pinned (OpenSpec.upto gangCarriesSpec)

/-- 'copestonelaw12.GangPays', WHERE WHAT IT READS IS OF BULK AT MOST 1048576: true; the input reads as it did. -/
def gangPaysUptoRow : OpenClaim := { program := "yteogibpmpppgmaagreat", sum := "5292d22ba285feae3a232dc9007d33b6c95f1d5f4e4d8a9de822a659da8b9085", func := "copestone/copestonelaw12.GangPays", spec := "gangPays", unfollowed := true, recurses := true, apart := false, narrowed := true }
def GangPaysUptoSaid : Prop := gangPaysUptoRow.holds Tryz.pinned (OpenSpec.upto gangPaysSpec)

/-- 'copestonelaw12.GangCovers', WHERE WHAT IT READS IS OF BULK AT MOST 1048576: true; the input reads as it did. -/
def gangCoversUptoRow : OpenClaim := { program := "yteogibpmpppgmaagreat", sum := "5292d22ba285feae3a232dc9007d33b6c95f1d5f4e4d8a9de822a659da8b9085", func := "copestone/copestonelaw12.GangCovers", spec := "gangCovers", unfollowed := true, recurses := true, apart := false, narrowed := true }
def GangCoversUptoSaid : Prop := gangCoversUptoRow.holds Tryz.pinned (OpenSpec.upto gangCoversSpec)

end Rows
end Go.Proofs.YteogibpmpppgmaaGreat
