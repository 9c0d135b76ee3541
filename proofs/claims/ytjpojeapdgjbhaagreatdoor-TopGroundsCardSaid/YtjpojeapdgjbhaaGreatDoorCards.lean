/-
  DERIVED. GIVEN WITH THE SEED: THE CARDS: each row of YtjpojeapdgjbhaaGreatDoorRows.lean that lists a variable, with what it lists TIED to the program's text (the seventh form; the later family's looks); each row that meets fmt, with fmt's text TOLD by the authors' own Lean function (tested against real Go, not proved from fmt's source: count such statements apart). THE CARD IS WHAT COUNTS. Prove the row's statement (the work); the ties are given (YtjpojeapdgjbhaaGreatDoorTie.lean); close each card by the builder's one call (the guide's Derived/Test/ToyasCard.lean, 'card_holds'). Laid BY PROGRAM, IN A SANDBOX (cutbox-door.mjs). By AI agents, Wed Nov 11 2026. No macro, syntax, notation, axiom, sorry.
-/
import Derived.Test.YtjpojeapdgjbhaaGreatDoorRows
import GoSem.ClaimSeven
namespace Go.Proofs.YtjpojeapdgjbhaaGreatDoor
namespace Rows

/-- THE TIED CARD OF 'copestonetop.TopRows'. -/
def topRowsCard : Claim7 := { stood := { row := topRowsRow, standIns := [], harness := (true, "41eefcf9911fbc5333eb0a5f1fa720d084a626d6c1148cf0b8ac05bcd34899d7"), looks := false }, kinds := [], alts := [], laidByText := true, laidKinds := [.data, .funcs, .pinned], laidTests := true, laidLooks := .later }
def TopRowsCardSaid : Prop := Claim7.holds Tryz.pinned (.plain (OpenSpec.ofChange topRowsSpec)) topRowsCard

/-- THE TIED CARD OF 'copestonetop.TopGrounds'. -/
def topGroundsCard : Claim7 := { stood := { row := topGroundsRow, standIns := [], harness := (true, "41eefcf9911fbc5333eb0a5f1fa720d084a626d6c1148cf0b8ac05bcd34899d7"), looks := false }, kinds := [], alts := [], laidByText := true, laidKinds := [.data, .funcs, .pinned], laidTests := true, laidLooks := .later }
def TopGroundsCardSaid : Prop := Claim7.holds Tryz.pinned (.plain (OpenSpec.ofChange topGroundsSpec)) topGroundsCard

/-- THE SECOND FORM's CARD OF 'copestonetop.TopRows'. -/
def topRowsUptoCard : Claim7 := { stood := { row := topRowsUptoRow, standIns := [], harness := (true, "41eefcf9911fbc5333eb0a5f1fa720d084a626d6c1148cf0b8ac05bcd34899d7"), looks := false }, kinds := [], alts := [], laidByText := true, laidKinds := [.data, .funcs, .pinned], laidTests := true, laidLooks := .later }
def TopRowsUptoCardSaid : Prop := Claim7.holds Tryz.pinned (.plain (OpenSpec.upto topRowsSpec)) topRowsUptoCard

/-- THE SECOND FORM's CARD OF 'copestonetop.TopGrounds'. -/
def topGroundsUptoCard : Claim7 := { stood := { row := topGroundsUptoRow, standIns := [], harness := (true, "41eefcf9911fbc5333eb0a5f1fa720d084a626d6c1148cf0b8ac05bcd34899d7"), looks := false }, kinds := [], alts := [], laidByText := true, laidKinds := [.data, .funcs, .pinned], laidTests := true, laidLooks := .later }
def TopGroundsUptoCardSaid : Prop := Claim7.holds Tryz.pinned (.plain (OpenSpec.upto topGroundsSpec)) topGroundsUptoCard
end Rows
end Go.Proofs.YtjpojeapdgjbhaaGreatDoor
