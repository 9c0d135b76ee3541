/-
  No cell of these rows narrows 'for every input' (looked for: loops, veiled, ifaces, maps, wideKeys, modest, calm, conditions, laid).
  DERIVED. THE GIVEN ROWS OF THIS SEAT. 7 by the template 'for every input the law returns true; each argument reads behind the call as it read before'; 0 by the template 'total and deterministic' (their statements: YteogibpmpppgmaaTotals.lean).
  GIVEN WITH THE SEED: the statements are not yours to turn. If you find one false, say at which input.
  Laid BY PROGRAM, IN A SANDBOX (cutbox-rows.mjs): the forced cells as the released guide's own fill.sh prints them over the translation 12890e03380359d0… (all of the seat's roots in one cut). By AI agents, Wed Nov 11 2026. No macro, syntax, notation, axiom, sorry.
-/
import Derived.Test.YteogibpmpppgmaaChecked
import GoSem.Claim
import GoSem.ClaimJoined
import GoSem.ClaimMapViews
import Derived.JoinedTies
import Derived.KernelRfl
namespace Go.Proofs.Yteogibpmpppgmaa
/- THE CELL 'sum', in the pinned program and in every row, IS THE sha256 OF THE DUMP (.gsa) THAT YteogibpmpppgmaaProg.lean LOADS. Nothing in Lean hashes anything: it is a label: what it is worth is what the hold of that sum in a sandbox is worth. -/
noncomputable def Try.pinned : Pinned := { name := "yteogibpmpppgmaa", sum := "12890e03380359d0cdd718e5df850ce8fc6f4f9daee15e3880ca8391d6c53b0b", checked := Try.checked }
namespace Rows
def none {H : Type} : Left H := { results := [], args := [] }

/-- 'copestonelaw12.GangShares': WHATEVER THE INPUT: true; the input reads as it did. -/
def gangSharesSpec : ChangeSpec := { name := "gangShares", fn := fun _ => fun
  | [d1, d2] => { results := [.lit (.bool true)], args := [d1, d2] }
  | _ => none }
def gangSharesRow : OpenClaim := { program := "yteogibpmpppgmaa", sum := "12890e03380359d0cdd718e5df850ce8fc6f4f9daee15e3880ca8391d6c53b0b", func := "copestone/copestonelaw12.GangShares", spec := "gangShares", unfollowed := true, recurses := true, apart := false }
def GangSharesSaid : Prop := gangSharesRow.holds Try.pinned (OpenSpec.ofChange gangSharesSpec)

/-- ITS FALSE NEIGHBOUR: 'it returns false'. Refute it at one input. -/
def gangSharesWrong : ChangeSpec := { name := "gangShares", fn := fun _ => fun
  | [d1, d2] => { results := [.lit (.bool false)], args := [d1, d2] }
  | _ => none }
def GangSharesWrongFalsely : Prop := gangSharesRow.holds Try.pinned (OpenSpec.ofChange gangSharesWrong)

/-- 'copestonelaw12.GangTrips': WHATEVER THE INPUT: true; the input reads as it did. -/
def gangTripsSpec : ChangeSpec := { name := "gangTrips", fn := fun _ => fun
  | [d1, d2] => { results := [.lit (.bool true)], args := [d1, d2] }
  | _ => none }
def gangTripsRow : OpenClaim := { program := "yteogibpmpppgmaa", sum := "12890e03380359d0cdd718e5df850ce8fc6f4f9daee15e3880ca8391d6c53b0b", func := "copestone/copestonelaw12.GangTrips", spec := "gangTrips", unfollowed := true, recurses := true, apart := false }
def GangTripsSaid : Prop := gangTripsRow.holds Try.pinned (OpenSpec.ofChange gangTripsSpec)

/-- ITS FALSE NEIGHBOUR: 'it returns false'. Refute it at one input. -/
def gangTripsWrong : ChangeSpec := { name := "gangTrips", fn := fun _ => fun
  | [d1, d2] => { results := [.lit (.bool false)], args := [d1, d2] }
  | _ => none }
def GangTripsWrongFalsely : Prop := gangTripsRow.holds Try.pinned (OpenSpec.ofChange gangTripsWrong)

/-- 'copestonelaw12.GangAllots': WHATEVER THE INPUT: true; the input reads as it did. -/
def gangAllotsSpec : ChangeSpec := { name := "gangAllots", fn := fun _ => fun
  | [d] => { results := [.lit (.bool true)], args := [d] }
  | _ => none }
def gangAllotsRow : OpenClaim := { program := "yteogibpmpppgmaa", sum := "12890e03380359d0cdd718e5df850ce8fc6f4f9daee15e3880ca8391d6c53b0b", func := "copestone/copestonelaw12.GangAllots", spec := "gangAllots", unfollowed := true, recurses := true, apart := false }
def GangAllotsSaid : Prop := gangAllotsRow.holds Try.pinned (OpenSpec.ofChange gangAllotsSpec)

/-- ITS FALSE NEIGHBOUR: 'it returns false'. Refute it at one input. -/
def gangAllotsWrong : ChangeSpec := { name := "gangAllots", fn := fun _ => fun
  | [d] => { results := [.lit (.bool false)], args := [d] }
  | _ => none }
def GangAllotsWrongFalsely : Prop := gangAllotsRow.holds Try.pinned (OpenSpec.ofChange gangAllotsWrong)

/-- 'copestonelaw12.GangFair': WHATEVER THE INPUT: true; the input reads as it did. -/
def gangFairSpec : ChangeSpec := { name := "gangFair", fn := fun _ => fun
  | [d1, d2] => { results := [.lit (.bool true)], args := [d1, d2] }
  | _ => none }
def gangFairRow : OpenClaim := { program := "yteogibpmpppgmaa", sum := "12890e03380359d0cdd718e5df850ce8fc6f4f9daee15e3880ca8391d6c53b0b", func := "copestone/copestonelaw12.GangFair", spec := "gangFair", unfollowed := true, recurses := true, apart := false }
def GangFairSaid : Prop := gangFairRow.holds Try.pinned (OpenSpec.ofChange gangFairSpec)

/-- ITS FALSE NEIGHBOUR: 'it returns false'. Refute it at one input. -/
def gangFairWrong : ChangeSpec := { name := "gangFair", fn := fun _ => fun
  | [d1, d2] => { results := [.lit (.bool false)], args := [d1, d2] }
  | _ => none }
def GangFairWrongFalsely : Prop := gangFairRow.holds Try.pinned (OpenSpec.ofChange gangFairWrong)

/-- 'copestonelaw12.GangCheapest': WHATEVER THE INPUT: true; the input reads as it did. -/
def gangCheapestSpec : ChangeSpec := { name := "gangCheapest", fn := fun _ => fun
  | [d1, d2, d3, d4] => { results := [.lit (.bool true)], args := [d1, d2, d3, d4] }
  | _ => none }
def gangCheapestRow : OpenClaim := { program := "yteogibpmpppgmaa", sum := "12890e03380359d0cdd718e5df850ce8fc6f4f9daee15e3880ca8391d6c53b0b", func := "copestone/copestonelaw12.GangCheapest", spec := "gangCheapest", unfollowed := true, recurses := true, apart := false }
def GangCheapestSaid : Prop := gangCheapestRow.holds Try.pinned (OpenSpec.ofChange gangCheapestSpec)

/-- ITS FALSE NEIGHBOUR: 'it returns false'. Refute it at one input. -/
def gangCheapestWrong : ChangeSpec := { name := "gangCheapest", fn := fun _ => fun
  | [d1, d2, d3, d4] => { results := [.lit (.bool false)], args := [d1, d2, d3, d4] }
  | _ => none }
def GangCheapestWrongFalsely : Prop := gangCheapestRow.holds Try.pinned (OpenSpec.ofChange gangCheapestWrong)

/-- 'copestonelaw12.GangCarts': WHATEVER THE INPUT: true; the input reads as it did. -/
def gangCartsSpec : ChangeSpec := { name := "gangCarts", fn := fun _ => fun
  | [d1, d2, d3] => { results := [.lit (.bool true)], args := [d1, d2, d3] }
  | _ => none }
def gangCartsRow : OpenClaim := { program := "yteogibpmpppgmaa", sum := "12890e03380359d0cdd718e5df850ce8fc6f4f9daee15e3880ca8391d6c53b0b", func := "copestone/copestonelaw12.GangCarts", spec := "gangCarts", unfollowed := true, recurses := true, apart := false }
def GangCartsSaid : Prop := gangCartsRow.holds Try.pinned (OpenSpec.ofChange gangCartsSpec)

/-- ITS FALSE NEIGHBOUR: 'it returns false'. Refute it at one input. -/
def gangCartsWrong : ChangeSpec := { name := "gangCarts", fn := fun _ => fun
  | [d1, d2, d3] => { results := [.lit (.bool false)], args := [d1, d2, d3] }
  | _ => none }
def GangCartsWrongFalsely : Prop := gangCartsRow.holds Try.pinned (OpenSpec.ofChange gangCartsWrong)

/-- 'copestonelaw12.GangFrames': WHATEVER THE INPUT: true; the input reads as it did. -/
def gangFramesSpec : ChangeSpec := { name := "gangFrames", fn := fun _ => fun
  | [d1, d2] => { results := [.lit (.bool true)], args := [d1, d2] }
  | _ => none }
def gangFramesRow : OpenClaim := { program := "yteogibpmpppgmaa", sum := "12890e03380359d0cdd718e5df850ce8fc6f4f9daee15e3880ca8391d6c53b0b", func := "copestone/copestonelaw12.GangFrames", spec := "gangFrames", unfollowed := true, recurses := true, apart := false }
def GangFramesSaid : Prop := gangFramesRow.holds Try.pinned (OpenSpec.ofChange gangFramesSpec)

/-- ITS FALSE NEIGHBOUR: 'it returns false'. Refute it at one input. -/
def gangFramesWrong : ChangeSpec := { name := "gangFrames", fn := fun _ => fun
  | [d1, d2] => { results := [.lit (.bool false)], args := [d1, d2] }
  | _ => none }
def GangFramesWrongFalsely : Prop := gangFramesRow.holds Try.pinned (OpenSpec.ofChange gangFramesWrong)

/- THE SECOND FORM. 'bulk': how many values and letters a reading holds, each counted each time it is reached (what is shared counts as often as it is met; a slice's spare places count too). A statement '..UptoSaid' is the law's where the arguments, and the package variables that the reading takes, are together of bulk at most 1048576: NARROWER than '..Said'. Prove '..Said' where nothing that the law and all that it calls make is longer than what came in: it says more and counts as full. Else prove '..UptoSaid'. A law counts once. -/
mutual
def uptoBulk {H : Type} : DataW H → Nat
  | .lit (.string bytes) => bytes.length + 1
  | .lit _ => 1
  | .nil => 1
  | .ptr d => uptoBulk d + 1
  | .slice elems spare => uptoBulkAll elems + uptoBulkAll spare + 1
  | .agg parts => uptoBulkAll parts + 1
  | .iface _ d => uptoBulk d + 1
  | .map entries => uptoBulkEntries entries + 1
  | .held _ => 1
def uptoBulkAll {H : Type} : List (DataW H) → Nat
  | [] => 0
  | d :: r => uptoBulk d + uptoBulkAll r
def uptoBulkEntries {H : Type} : List (Lit × DataW H) → Nat
  | [] => 0
  | x :: r => uptoBulkEntry x + uptoBulkEntries r
def uptoBulkEntry {H : Type} : Lit × DataW H → Nat
  | (.string bytes, d) => bytes.length + uptoBulk d + 1
  | (_, d) => uptoBulk d + 1
 end
def uptoSmall : (H : Type) → List (DataW H) → Bool := fun _ ds => decide (uptoBulkAll ds ≤ 1048576)
def OpenSpec.upto (s : _root_.Go.ChangeSpec) : _root_.Go.OpenSpec := { _root_.Go.OpenSpec.ofChange s with cond := some uptoSmall }

/-- 'copestonelaw12.GangShares', WHERE WHAT IT READS IS OF BULK AT MOST 1048576: true; the input reads as it did. -/
def gangSharesUptoRow : OpenClaim := { program := "yteogibpmpppgmaa", sum := "12890e03380359d0cdd718e5df850ce8fc6f4f9daee15e3880ca8391d6c53b0b", func := "copestone/copestonelaw12.GangShares", spec := "gangShares", unfollowed := true, recurses := true, apart := false, narrowed := true }
def GangSharesUptoSaid : Prop := gangSharesUptoRow.holds Try.pinned (OpenSpec.upto gangSharesSpec)

/-- 'copestonelaw12.GangTrips', WHERE WHAT IT READS IS OF BULK AT MOST 1048576: true; the input reads as it did. -/
def gangTripsUptoRow : OpenClaim := { program := "yteogibpmpppgmaa", sum := "12890e03380359d0cdd718e5df850ce8fc6f4f9daee15e3880ca8391d6c53b0b", func := "copestone/copestonelaw12.GangTrips", spec := "gangTrips", unfollowed := true, recurses := true, apart := false, narrowed := true }
def GangTripsUptoSaid : Prop := gangTripsUptoRow.holds Try.pinned (OpenSpec.upto gangTripsSpec)

/-- 'copestonelaw12.GangAllots', WHERE WHAT IT READS IS OF BULK AT MOST 1048576: true; the input reads as it did. -/
def gangAllotsUptoRow : OpenClaim := { program := "yteogibpmpppgmaa", sum := "12890e03380359d0cdd718e5df850ce8fc6f4f9daee15e3880ca8391d6c53b0b", func := "copestone/copestonelaw12.GangAllots", spec := "gangAllots", unfollowed := true, recurses := true, apart := false, narrowed := true }
def GangAllotsUptoSaid : Prop := gangAllotsUptoRow.holds Try.pinned (OpenSpec.upto gangAllotsSpec)

/-- 'copestonelaw12.GangFair', WHERE WHAT IT READS IS OF BULK AT MOST 1048576: true; the input reads as it did. -/
def gangFairUptoRow : OpenClaim := { program := "yteogibpmpppgmaa", sum := "12890e03380359d0cdd718e5df850ce8fc6f4f9daee15e3880ca8391d6c53b0b", func := "copestone/copestonelaw12.GangFair", spec := "gangFair", unfollowed := true, recurses := true, apart := false, narrowed := true }
def GangFairUptoSaid : Prop := gangFairUptoRow.holds Try.pinned (OpenSpec.upto gangFairSpec)

/-- 'copestonelaw12.GangCheapest', WHERE WHAT IT READS IS OF BULK AT MOST 1048576: true; the input reads as it did. -/
def gangCheapestUptoRow : OpenClaim := { program := "yteogibpmpppgmaa", sum := "12890e03380359d0cdd718e5df850ce8fc6f4f9daee15e3880ca8391d6c53b0b", func := "copestone/copestonelaw12.GangCheapest", spec := "gangCheapest", unfollowed := true, recurses := true, apart := false, narrowed := true }
def GangCheapestUptoSaid : Prop := gangCheapestUptoRow.holds Try.pinned (OpenSpec.upto gangCheapestSpec)

/-- 'copestonelaw12.GangCarts', WHERE WHAT IT READS IS OF BULK AT MOST 1048576: true; the input reads as it did. -/
def gangCartsUptoRow : OpenClaim := { program := "yteogibpmpppgmaa", sum := "12890e03380359d0cdd718e5df850ce8fc6f4f9daee15e3880ca8391d6c53b0b", func := "copestone/copestonelaw12.GangCarts", spec := "gangCarts", unfollowed := true, recurses := true, apart := false, narrowed := true }
def GangCartsUptoSaid : Prop := gangCartsUptoRow.holds Try.pinned (OpenSpec.upto gangCartsSpec)

/-- 'copestonelaw12.GangFrames', WHERE WHAT IT READS IS OF BULK AT MOST 1048576: true; the input reads as it did. -/
def gangFramesUptoRow : OpenClaim := { program := "yteogibpmpppgmaa", sum := "12890e03380359d0cdd718e5df850ce8fc6f4f9daee15e3880ca8391d6c53b0b", func := "copestone/copestonelaw12.GangFrames", spec := "gangFrames", unfollowed := true, recurses := true, apart := false, narrowed := true }
def GangFramesUptoSaid : Prop := gangFramesUptoRow.holds Try.pinned (OpenSpec.upto gangFramesSpec)

end Rows
end Go.Proofs.Yteogibpmpppgmaa
