/-
  DERIVED. GIVEN WITH THE SEED: THE CARDS: each row of YthmdhlopeponcaaGreatDoorRows.lean that lists a variable, with what it lists TIED to the program's text (the seventh form; the later family's looks); each row that meets fmt, with fmt's text TOLD by the authors' own Lean function (tested against real Go, not proved from fmt's source: count such statements apart). THE CARD IS WHAT COUNTS. Prove the row's statement (the work); the ties are given (YthmdhlopeponcaaGreatDoorTie.lean); close each card by the builder's one call (the guide's Derived/Test/ToyasCard.lean, 'card_holds'). Laid BY PROGRAM, IN A SANDBOX (cutbox-door.mjs). By AI agents, Wed Nov 11 2026. No macro, syntax, notation, axiom, sorry.
-/
import Derived.Test.YthmdhlopeponcaaGreatDoorRows
import GoSem.ClaimSeven
namespace Go.Proofs.YthmdhlopeponcaaGreatDoor
namespace Rows

/-- THE TIED CARD OF 'copestonelaw08.HillFeet'. -/
def hillFeetCard : Claim7 := { stood := { row := hillFeetRow, standIns := [], harness := (true, "014a6aefb875d266582ecdffd6584c888fa7065ca8f9d81295956c9c38fae6b2"), looks := false }, kinds := [], alts := [], laidByText := true, laidKinds := [.data, .pinned], laidTests := true, laidLooks := .later }
def HillFeetCardSaid : Prop := Claim7.holds Tryz.pinned (.plain (OpenSpec.ofChange hillFeetSpec)) hillFeetCard

/-- THE TIED CARD OF 'copestonelaw08.HillDigs'. -/
def hillDigsCard : Claim7 := { stood := { row := hillDigsRow, standIns := [], harness := (true, "014a6aefb875d266582ecdffd6584c888fa7065ca8f9d81295956c9c38fae6b2"), looks := false }, kinds := [], alts := [], laidByText := true, laidKinds := [.data, .pinned], laidTests := true, laidLooks := .later }
def HillDigsCardSaid : Prop := Claim7.holds Tryz.pinned (.plain (OpenSpec.ofChange hillDigsSpec)) hillDigsCard

/-- THE TIED CARD OF 'copestonelaw08.HillBest'. -/
def hillBestCard : Claim7 := { stood := { row := hillBestRow, standIns := [], harness := (true, "014a6aefb875d266582ecdffd6584c888fa7065ca8f9d81295956c9c38fae6b2"), looks := false }, kinds := [], alts := [], laidByText := true, laidKinds := [.data, .pinned], laidTests := true, laidLooks := .later }
def HillBestCardSaid : Prop := Claim7.holds Tryz.pinned (.plain (OpenSpec.ofChange hillBestSpec)) hillBestCard

/-- THE TIED CARD OF 'copestonelaw08.HillRows'. -/
def hillRowsCard : Claim7 := { stood := { row := hillRowsRow, standIns := [], harness := (true, "014a6aefb875d266582ecdffd6584c888fa7065ca8f9d81295956c9c38fae6b2"), looks := false }, kinds := [], alts := [], laidByText := true, laidKinds := [.data, .pinned], laidTests := true, laidLooks := .later }
def HillRowsCardSaid : Prop := Claim7.holds Tryz.pinned (.plain (OpenSpec.ofChange hillRowsSpec)) hillRowsCard

/-- THE TIED CARD OF 'copestonelaw08.HillFloods'. -/
def hillFloodsCard : Claim7 := { stood := { row := hillFloodsRow, standIns := [], harness := (true, "014a6aefb875d266582ecdffd6584c888fa7065ca8f9d81295956c9c38fae6b2"), looks := false }, kinds := [], alts := [], laidByText := true, laidKinds := [.data, .pinned], laidTests := true, laidLooks := .later }
def HillFloodsCardSaid : Prop := Claim7.holds Tryz.pinned (.plain (OpenSpec.ofChange hillFloodsSpec)) hillFloodsCard

/-- THE TIED CARD OF 'copestonelaw08.HillTurned'. -/
def hillTurnedCard : Claim7 := { stood := { row := hillTurnedRow, standIns := [], harness := (true, "014a6aefb875d266582ecdffd6584c888fa7065ca8f9d81295956c9c38fae6b2"), looks := false }, kinds := [], alts := [], laidByText := true, laidKinds := [.data, .pinned], laidTests := true, laidLooks := .later }
def HillTurnedCardSaid : Prop := Claim7.holds Tryz.pinned (.plain (OpenSpec.ofChange hillTurnedSpec)) hillTurnedCard

/-- THE TIED CARD OF 'copestonelaw08.HillStands'. -/
def hillStandsCard : Claim7 := { stood := { row := hillStandsRow, standIns := [], harness := (true, "014a6aefb875d266582ecdffd6584c888fa7065ca8f9d81295956c9c38fae6b2"), looks := false }, kinds := [], alts := [], laidByText := true, laidKinds := [.data, .pinned], laidTests := true, laidLooks := .later }
def HillStandsCardSaid : Prop := Claim7.holds Tryz.pinned (.plain (OpenSpec.ofChange hillStandsSpec)) hillStandsCard

/-- THE TIED CARD OF 'copestonelaw08.HillMeasures'. -/
def hillMeasuresCard : Claim7 := { stood := { row := hillMeasuresRow, standIns := [], harness := (true, "014a6aefb875d266582ecdffd6584c888fa7065ca8f9d81295956c9c38fae6b2"), looks := false }, kinds := [], alts := [], laidByText := true, laidKinds := [.data, .pinned], laidTests := true, laidLooks := .later }
def HillMeasuresCardSaid : Prop := Claim7.holds Tryz.pinned (.plain (OpenSpec.ofChange hillMeasuresSpec)) hillMeasuresCard

/-- THE TIED CARD OF 'copestonelaw08.HillAreas'. -/
def hillAreasCard : Claim7 := { stood := { row := hillAreasRow, standIns := [], harness := (true, "014a6aefb875d266582ecdffd6584c888fa7065ca8f9d81295956c9c38fae6b2"), looks := false }, kinds := [], alts := [], laidByText := true, laidKinds := [.data, .pinned], laidTests := true, laidLooks := .later }
def HillAreasCardSaid : Prop := Claim7.holds Tryz.pinned (.plain (OpenSpec.ofChange hillAreasSpec)) hillAreasCard

/-- THE TIED CARD OF 'copestonelaw08.HillRises'. -/
def hillRisesCard : Claim7 := { stood := { row := hillRisesRow, standIns := [], harness := (true, "014a6aefb875d266582ecdffd6584c888fa7065ca8f9d81295956c9c38fae6b2"), looks := false }, kinds := [], alts := [], laidByText := true, laidKinds := [.data, .pinned], laidTests := true, laidLooks := .later }
def HillRisesCardSaid : Prop := Claim7.holds Tryz.pinned (.plain (OpenSpec.ofChange hillRisesSpec)) hillRisesCard

/-- THE TIED CARD OF 'copestonelaw08.HillGrounds'. -/
def hillGroundsCard : Claim7 := { stood := { row := hillGroundsRow, standIns := [], harness := (true, "014a6aefb875d266582ecdffd6584c888fa7065ca8f9d81295956c9c38fae6b2"), looks := false }, kinds := [], alts := [], laidByText := true, laidKinds := [.data, .pinned], laidTests := true, laidLooks := .later }
def HillGroundsCardSaid : Prop := Claim7.holds Tryz.pinned (.plain (OpenSpec.ofChange hillGroundsSpec)) hillGroundsCard

/-- THE TIED CARD OF 'copestonelaw08.HillGreatest'. -/
def hillGreatestCard : Claim7 := { stood := { row := hillGreatestRow, standIns := [], harness := (true, "014a6aefb875d266582ecdffd6584c888fa7065ca8f9d81295956c9c38fae6b2"), looks := false }, kinds := [], alts := [], laidByText := true, laidKinds := [.data, .pinned], laidTests := true, laidLooks := .later }
def HillGreatestCardSaid : Prop := Claim7.holds Tryz.pinned (.plain (OpenSpec.ofChange hillGreatestSpec)) hillGreatestCard

/-- THE TIED CARD OF 'copestonelaw08.HillCheapest'. -/
def hillCheapestCard : Claim7 := { stood := { row := hillCheapestRow, standIns := [], harness := (true, "014a6aefb875d266582ecdffd6584c888fa7065ca8f9d81295956c9c38fae6b2"), looks := false }, kinds := [], alts := [], laidByText := true, laidKinds := [.data, .pinned], laidTests := true, laidLooks := .later }
def HillCheapestCardSaid : Prop := Claim7.holds Tryz.pinned (.plain (OpenSpec.ofChange hillCheapestSpec)) hillCheapestCard

/-- THE SECOND FORM's CARD OF 'copestonelaw08.HillFeet'. -/
def hillFeetUptoCard : Claim7 := { stood := { row := hillFeetUptoRow, standIns := [], harness := (true, "014a6aefb875d266582ecdffd6584c888fa7065ca8f9d81295956c9c38fae6b2"), looks := false }, kinds := [], alts := [], laidByText := true, laidKinds := [.data, .pinned], laidTests := true, laidLooks := .later }
def HillFeetUptoCardSaid : Prop := Claim7.holds Tryz.pinned (.plain (OpenSpec.upto hillFeetSpec)) hillFeetUptoCard

/-- THE SECOND FORM's CARD OF 'copestonelaw08.HillDigs'. -/
def hillDigsUptoCard : Claim7 := { stood := { row := hillDigsUptoRow, standIns := [], harness := (true, "014a6aefb875d266582ecdffd6584c888fa7065ca8f9d81295956c9c38fae6b2"), looks := false }, kinds := [], alts := [], laidByText := true, laidKinds := [.data, .pinned], laidTests := true, laidLooks := .later }
def HillDigsUptoCardSaid : Prop := Claim7.holds Tryz.pinned (.plain (OpenSpec.upto hillDigsSpec)) hillDigsUptoCard

/-- THE SECOND FORM's CARD OF 'copestonelaw08.HillBest'. -/
def hillBestUptoCard : Claim7 := { stood := { row := hillBestUptoRow, standIns := [], harness := (true, "014a6aefb875d266582ecdffd6584c888fa7065ca8f9d81295956c9c38fae6b2"), looks := false }, kinds := [], alts := [], laidByText := true, laidKinds := [.data, .pinned], laidTests := true, laidLooks := .later }
def HillBestUptoCardSaid : Prop := Claim7.holds Tryz.pinned (.plain (OpenSpec.upto hillBestSpec)) hillBestUptoCard

/-- THE SECOND FORM's CARD OF 'copestonelaw08.HillRows'. -/
def hillRowsUptoCard : Claim7 := { stood := { row := hillRowsUptoRow, standIns := [], harness := (true, "014a6aefb875d266582ecdffd6584c888fa7065ca8f9d81295956c9c38fae6b2"), looks := false }, kinds := [], alts := [], laidByText := true, laidKinds := [.data, .pinned], laidTests := true, laidLooks := .later }
def HillRowsUptoCardSaid : Prop := Claim7.holds Tryz.pinned (.plain (OpenSpec.upto hillRowsSpec)) hillRowsUptoCard

/-- THE SECOND FORM's CARD OF 'copestonelaw08.HillFloods'. -/
def hillFloodsUptoCard : Claim7 := { stood := { row := hillFloodsUptoRow, standIns := [], harness := (true, "014a6aefb875d266582ecdffd6584c888fa7065ca8f9d81295956c9c38fae6b2"), looks := false }, kinds := [], alts := [], laidByText := true, laidKinds := [.data, .pinned], laidTests := true, laidLooks := .later }
def HillFloodsUptoCardSaid : Prop := Claim7.holds Tryz.pinned (.plain (OpenSpec.upto hillFloodsSpec)) hillFloodsUptoCard

/-- THE SECOND FORM's CARD OF 'copestonelaw08.HillTurned'. -/
def hillTurnedUptoCard : Claim7 := { stood := { row := hillTurnedUptoRow, standIns := [], harness := (true, "014a6aefb875d266582ecdffd6584c888fa7065ca8f9d81295956c9c38fae6b2"), looks := false }, kinds := [], alts := [], laidByText := true, laidKinds := [.data, .pinned], laidTests := true, laidLooks := .later }
def HillTurnedUptoCardSaid : Prop := Claim7.holds Tryz.pinned (.plain (OpenSpec.upto hillTurnedSpec)) hillTurnedUptoCard

/-- THE SECOND FORM's CARD OF 'copestonelaw08.HillStands'. -/
def hillStandsUptoCard : Claim7 := { stood := { row := hillStandsUptoRow, standIns := [], harness := (true, "014a6aefb875d266582ecdffd6584c888fa7065ca8f9d81295956c9c38fae6b2"), looks := false }, kinds := [], alts := [], laidByText := true, laidKinds := [.data, .pinned], laidTests := true, laidLooks := .later }
def HillStandsUptoCardSaid : Prop := Claim7.holds Tryz.pinned (.plain (OpenSpec.upto hillStandsSpec)) hillStandsUptoCard

/-- THE SECOND FORM's CARD OF 'copestonelaw08.HillMeasures'. -/
def hillMeasuresUptoCard : Claim7 := { stood := { row := hillMeasuresUptoRow, standIns := [], harness := (true, "014a6aefb875d266582ecdffd6584c888fa7065ca8f9d81295956c9c38fae6b2"), looks := false }, kinds := [], alts := [], laidByText := true, laidKinds := [.data, .pinned], laidTests := true, laidLooks := .later }
def HillMeasuresUptoCardSaid : Prop := Claim7.holds Tryz.pinned (.plain (OpenSpec.upto hillMeasuresSpec)) hillMeasuresUptoCard

/-- THE SECOND FORM's CARD OF 'copestonelaw08.HillAreas'. -/
def hillAreasUptoCard : Claim7 := { stood := { row := hillAreasUptoRow, standIns := [], harness := (true, "014a6aefb875d266582ecdffd6584c888fa7065ca8f9d81295956c9c38fae6b2"), looks := false }, kinds := [], alts := [], laidByText := true, laidKinds := [.data, .pinned], laidTests := true, laidLooks := .later }
def HillAreasUptoCardSaid : Prop := Claim7.holds Tryz.pinned (.plain (OpenSpec.upto hillAreasSpec)) hillAreasUptoCard

/-- THE SECOND FORM's CARD OF 'copestonelaw08.HillRises'. -/
def hillRisesUptoCard : Claim7 := { stood := { row := hillRisesUptoRow, standIns := [], harness := (true, "014a6aefb875d266582ecdffd6584c888fa7065ca8f9d81295956c9c38fae6b2"), looks := false }, kinds := [], alts := [], laidByText := true, laidKinds := [.data, .pinned], laidTests := true, laidLooks := .later }
def HillRisesUptoCardSaid : Prop := Claim7.holds Tryz.pinned (.plain (OpenSpec.upto hillRisesSpec)) hillRisesUptoCard

/-- THE SECOND FORM's CARD OF 'copestonelaw08.HillGrounds'. -/
def hillGroundsUptoCard : Claim7 := { stood := { row := hillGroundsUptoRow, standIns := [], harness := (true, "014a6aefb875d266582ecdffd6584c888fa7065ca8f9d81295956c9c38fae6b2"), looks := false }, kinds := [], alts := [], laidByText := true, laidKinds := [.data, .pinned], laidTests := true, laidLooks := .later }
def HillGroundsUptoCardSaid : Prop := Claim7.holds Tryz.pinned (.plain (OpenSpec.upto hillGroundsSpec)) hillGroundsUptoCard

/-- THE SECOND FORM's CARD OF 'copestonelaw08.HillGreatest'. -/
def hillGreatestUptoCard : Claim7 := { stood := { row := hillGreatestUptoRow, standIns := [], harness := (true, "014a6aefb875d266582ecdffd6584c888fa7065ca8f9d81295956c9c38fae6b2"), looks := false }, kinds := [], alts := [], laidByText := true, laidKinds := [.data, .pinned], laidTests := true, laidLooks := .later }
def HillGreatestUptoCardSaid : Prop := Claim7.holds Tryz.pinned (.plain (OpenSpec.upto hillGreatestSpec)) hillGreatestUptoCard

/-- THE SECOND FORM's CARD OF 'copestonelaw08.HillCheapest'. -/
def hillCheapestUptoCard : Claim7 := { stood := { row := hillCheapestUptoRow, standIns := [], harness := (true, "014a6aefb875d266582ecdffd6584c888fa7065ca8f9d81295956c9c38fae6b2"), looks := false }, kinds := [], alts := [], laidByText := true, laidKinds := [.data, .pinned], laidTests := true, laidLooks := .later }
def HillCheapestUptoCardSaid : Prop := Claim7.holds Tryz.pinned (.plain (OpenSpec.upto hillCheapestSpec)) hillCheapestUptoCard
end Rows
end Go.Proofs.YthmdhlopeponcaaGreatDoor
