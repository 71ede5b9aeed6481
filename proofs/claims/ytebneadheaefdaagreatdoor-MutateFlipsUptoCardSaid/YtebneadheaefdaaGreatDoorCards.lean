/-
  DERIVED. GIVEN WITH THE SEED: THE CARDS: each row of YtebneadheaefdaaGreatDoorRows.lean that lists a variable, with what it lists TIED to the program's text (the seventh form; the later family's looks); each row that meets fmt, with fmt's text TOLD by the authors' own Lean function (tested against real Go, not proved from fmt's source: count such statements apart). THE CARD IS WHAT COUNTS. Prove the row's statement (the work); the ties are given (YtebneadheaefdaaGreatDoorTie.lean); close each card by the builder's one call (the guide's Derived/Test/ToyasCard.lean, 'card_holds'). Laid BY PROGRAM, IN A SANDBOX (cutbox-door.mjs). By AI agents, Wed Nov 11 2026. No macro, syntax, notation, axiom, sorry.
-/
import Derived.Test.YtebneadheaefdaaGreatDoorRows
import GoSem.ClaimSeven
namespace Go.Proofs.YtebneadheaefdaaGreatDoor
namespace Rows

/-- THE TIED CARD OF 'testbenchlaw32.SimRuns'. -/
def simRunsCard : Claim7 := { stood := { row := simRunsRow, standIns := [], harness := (true, "f6f34adae81ebf1459831a873a89e75ffe4dc111443b961a825d2c5d8c18ce47"), looks := false }, kinds := [], alts := [], laidByText := true, laidKinds := [.widerDeep], laidTests := true, laidLooks := .later }
def SimRunsCardSaid : Prop := Claim7.holds Tryz.pinned (.plain (OpenSpec.ofChange simRunsSpec)) simRunsCard

/-- THE TIED CARD OF 'testbenchlaw32.SimSteps'. -/
def simStepsCard : Claim7 := { stood := { row := simStepsRow, standIns := [], harness := (true, "f6f34adae81ebf1459831a873a89e75ffe4dc111443b961a825d2c5d8c18ce47"), looks := false }, kinds := [], alts := [], laidByText := true, laidKinds := [.widerDeep], laidTests := true, laidLooks := .later }
def SimStepsCardSaid : Prop := Claim7.holds Tryz.pinned (.plain (OpenSpec.ofChange simStepsSpec)) simStepsCard

/-- THE TIED CARD OF 'testbenchlaw34.MutateSites'. -/
def mutateSitesCard : Claim7 := { stood := { row := mutateSitesRow, standIns := [], harness := (true, "f6f34adae81ebf1459831a873a89e75ffe4dc111443b961a825d2c5d8c18ce47"), looks := false }, kinds := [], alts := [], laidByText := true, laidKinds := [.data, .data, .data, .widerDeep], laidTests := true, laidLooks := .later }
def MutateSitesCardSaid : Prop := Claim7.holds Tryz.pinned (.plain (OpenSpec.ofChange mutateSitesSpec)) mutateSitesCard

/-- THE TIED CARD OF 'testbenchlaw34.MutateMutants'. -/
def mutateMutantsCard : Claim7 := { stood := { row := mutateMutantsRow, standIns := [], harness := (true, "f6f34adae81ebf1459831a873a89e75ffe4dc111443b961a825d2c5d8c18ce47"), looks := false }, kinds := [], alts := [], laidByText := true, laidKinds := [.data, .data, .data, .widerDeep], laidTests := true, laidLooks := .later }
def MutateMutantsCardSaid : Prop := Claim7.holds Tryz.pinned (.plain (OpenSpec.ofChange mutateMutantsSpec)) mutateMutantsCard

/-- THE TIED CARD OF 'testbenchlaw34.MutateInjects'. -/
def mutateInjectsCard : Claim7 := { stood := { row := mutateInjectsRow, standIns := [], harness := (true, "f6f34adae81ebf1459831a873a89e75ffe4dc111443b961a825d2c5d8c18ce47"), looks := false }, kinds := [], alts := [], laidByText := true, laidKinds := [.data, .data, .data, .widerDeep], laidTests := true, laidLooks := .later }
def MutateInjectsCardSaid : Prop := Claim7.holds Tryz.pinned (.plain (OpenSpec.ofChange mutateInjectsSpec)) mutateInjectsCard

/-- THE TIED CARD OF 'testbenchlaw34.MutateValid'. -/
def mutateValidCard : Claim7 := { stood := { row := mutateValidRow, standIns := [], harness := (true, "f6f34adae81ebf1459831a873a89e75ffe4dc111443b961a825d2c5d8c18ce47"), looks := false }, kinds := [], alts := [], laidByText := true, laidKinds := [.data, .data, .data, .widerDeep], laidTests := true, laidLooks := .later }
def MutateValidCardSaid : Prop := Claim7.holds Tryz.pinned (.plain (OpenSpec.ofChange mutateValidSpec)) mutateValidCard

/-- THE TIED CARD OF 'testbenchlaw31.DesignPrints'. -/
def designPrintsCard : Claim7 := { stood := { row := designPrintsRow, standIns := [], harness := (true, "f6f34adae81ebf1459831a873a89e75ffe4dc111443b961a825d2c5d8c18ce47"), looks := false }, kinds := [], alts := [], laidByText := true, laidKinds := [.data, .data, .data, .widerDeep], laidTests := true, laidLooks := .later }
def DesignPrintsCardSaid : Prop := Claim7.holds Tryz.pinned (.plain (OpenSpec.ofChange designPrintsSpec)) designPrintsCard

/-- THE TIED CARD OF 'testbenchlaw31.DesignTexts'. -/
def designTextsCard : Claim7 := { stood := { row := designTextsRow, standIns := [], harness := (true, "f6f34adae81ebf1459831a873a89e75ffe4dc111443b961a825d2c5d8c18ce47"), looks := false }, kinds := [], alts := [], laidByText := true, laidKinds := [.data, .data, .data, .widerDeep], laidTests := true, laidLooks := .later }
def DesignTextsCardSaid : Prop := Claim7.holds Tryz.pinned (.plain (OpenSpec.ofChange designTextsSpec)) designTextsCard

/-- THE TIED CARD OF 'testbenchlaw34.MutateFlips'. -/
def mutateFlipsCard : Claim7 := { stood := { row := mutateFlipsRow, standIns := [], harness := (true, "f6f34adae81ebf1459831a873a89e75ffe4dc111443b961a825d2c5d8c18ce47"), looks := false }, kinds := [], alts := [], laidByText := true, laidKinds := [.data, .data, .data, .widerDeep], laidTests := true, laidLooks := .later }
def MutateFlipsCardSaid : Prop := Claim7.holds Tryz.pinned (.plain (OpenSpec.ofChange mutateFlipsSpec)) mutateFlipsCard

/-- THE SECOND FORM's CARD OF 'testbenchlaw32.SimRuns'. -/
def simRunsUptoCard : Claim7 := { stood := { row := simRunsUptoRow, standIns := [], harness := (true, "f6f34adae81ebf1459831a873a89e75ffe4dc111443b961a825d2c5d8c18ce47"), looks := false }, kinds := [], alts := [], laidByText := true, laidKinds := [.widerDeep], laidTests := true, laidLooks := .later }
def SimRunsUptoCardSaid : Prop := Claim7.holds Tryz.pinned (.plain (OpenSpec.upto simRunsSpec)) simRunsUptoCard

/-- THE SECOND FORM's CARD OF 'testbenchlaw32.SimSteps'. -/
def simStepsUptoCard : Claim7 := { stood := { row := simStepsUptoRow, standIns := [], harness := (true, "f6f34adae81ebf1459831a873a89e75ffe4dc111443b961a825d2c5d8c18ce47"), looks := false }, kinds := [], alts := [], laidByText := true, laidKinds := [.widerDeep], laidTests := true, laidLooks := .later }
def SimStepsUptoCardSaid : Prop := Claim7.holds Tryz.pinned (.plain (OpenSpec.upto simStepsSpec)) simStepsUptoCard

/-- THE SECOND FORM's CARD OF 'testbenchlaw34.MutateSites'. -/
def mutateSitesUptoCard : Claim7 := { stood := { row := mutateSitesUptoRow, standIns := [], harness := (true, "f6f34adae81ebf1459831a873a89e75ffe4dc111443b961a825d2c5d8c18ce47"), looks := false }, kinds := [], alts := [], laidByText := true, laidKinds := [.data, .data, .data, .widerDeep], laidTests := true, laidLooks := .later }
def MutateSitesUptoCardSaid : Prop := Claim7.holds Tryz.pinned (.plain (OpenSpec.upto mutateSitesSpec)) mutateSitesUptoCard

/-- THE SECOND FORM's CARD OF 'testbenchlaw34.MutateMutants'. -/
def mutateMutantsUptoCard : Claim7 := { stood := { row := mutateMutantsUptoRow, standIns := [], harness := (true, "f6f34adae81ebf1459831a873a89e75ffe4dc111443b961a825d2c5d8c18ce47"), looks := false }, kinds := [], alts := [], laidByText := true, laidKinds := [.data, .data, .data, .widerDeep], laidTests := true, laidLooks := .later }
def MutateMutantsUptoCardSaid : Prop := Claim7.holds Tryz.pinned (.plain (OpenSpec.upto mutateMutantsSpec)) mutateMutantsUptoCard

/-- THE SECOND FORM's CARD OF 'testbenchlaw34.MutateInjects'. -/
def mutateInjectsUptoCard : Claim7 := { stood := { row := mutateInjectsUptoRow, standIns := [], harness := (true, "f6f34adae81ebf1459831a873a89e75ffe4dc111443b961a825d2c5d8c18ce47"), looks := false }, kinds := [], alts := [], laidByText := true, laidKinds := [.data, .data, .data, .widerDeep], laidTests := true, laidLooks := .later }
def MutateInjectsUptoCardSaid : Prop := Claim7.holds Tryz.pinned (.plain (OpenSpec.upto mutateInjectsSpec)) mutateInjectsUptoCard

/-- THE SECOND FORM's CARD OF 'testbenchlaw34.MutateValid'. -/
def mutateValidUptoCard : Claim7 := { stood := { row := mutateValidUptoRow, standIns := [], harness := (true, "f6f34adae81ebf1459831a873a89e75ffe4dc111443b961a825d2c5d8c18ce47"), looks := false }, kinds := [], alts := [], laidByText := true, laidKinds := [.data, .data, .data, .widerDeep], laidTests := true, laidLooks := .later }
def MutateValidUptoCardSaid : Prop := Claim7.holds Tryz.pinned (.plain (OpenSpec.upto mutateValidSpec)) mutateValidUptoCard

/-- THE SECOND FORM's CARD OF 'testbenchlaw31.DesignPrints'. -/
def designPrintsUptoCard : Claim7 := { stood := { row := designPrintsUptoRow, standIns := [], harness := (true, "f6f34adae81ebf1459831a873a89e75ffe4dc111443b961a825d2c5d8c18ce47"), looks := false }, kinds := [], alts := [], laidByText := true, laidKinds := [.data, .data, .data, .widerDeep], laidTests := true, laidLooks := .later }
def DesignPrintsUptoCardSaid : Prop := Claim7.holds Tryz.pinned (.plain (OpenSpec.upto designPrintsSpec)) designPrintsUptoCard

/-- THE SECOND FORM's CARD OF 'testbenchlaw31.DesignTexts'. -/
def designTextsUptoCard : Claim7 := { stood := { row := designTextsUptoRow, standIns := [], harness := (true, "f6f34adae81ebf1459831a873a89e75ffe4dc111443b961a825d2c5d8c18ce47"), looks := false }, kinds := [], alts := [], laidByText := true, laidKinds := [.data, .data, .data, .widerDeep], laidTests := true, laidLooks := .later }
def DesignTextsUptoCardSaid : Prop := Claim7.holds Tryz.pinned (.plain (OpenSpec.upto designTextsSpec)) designTextsUptoCard

/-- THE SECOND FORM's CARD OF 'testbenchlaw34.MutateFlips'. -/
def mutateFlipsUptoCard : Claim7 := { stood := { row := mutateFlipsUptoRow, standIns := [], harness := (true, "f6f34adae81ebf1459831a873a89e75ffe4dc111443b961a825d2c5d8c18ce47"), looks := false }, kinds := [], alts := [], laidByText := true, laidKinds := [.data, .data, .data, .widerDeep], laidTests := true, laidLooks := .later }
def MutateFlipsUptoCardSaid : Prop := Claim7.holds Tryz.pinned (.plain (OpenSpec.upto mutateFlipsSpec)) mutateFlipsUptoCard
end Rows
end Go.Proofs.YtebneadheaefdaaGreatDoor
