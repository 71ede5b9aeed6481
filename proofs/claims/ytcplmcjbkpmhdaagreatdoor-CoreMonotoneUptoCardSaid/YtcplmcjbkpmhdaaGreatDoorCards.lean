/-
  DERIVED. GIVEN WITH THE SEED: THE CARDS: each row of YtcplmcjbkpmhdaaGreatDoorRows.lean that lists a variable, with what it lists TIED to the program's text (the seventh form; the later family's looks); each row that meets fmt, with fmt's text TOLD by the authors' own Lean function (tested against real Go, not proved from fmt's source: count such statements apart). THE CARD IS WHAT COUNTS. Prove the row's statement (the work); the ties are given (YtcplmcjbkpmhdaaGreatDoorTie.lean); close each card by the builder's one call (the guide's Derived/Test/ToyasCard.lean, 'card_holds'). Laid BY PROGRAM, IN A SANDBOX (cutbox-door.mjs). By AI agents, Wed Nov 11 2026. No macro, syntax, notation, axiom, sorry.
-/
import Derived.Test.YtcplmcjbkpmhdaaGreatDoorRows
import GoSem.ClaimSeven
namespace Go.Proofs.YtcplmcjbkpmhdaaGreatDoor
namespace Rows

/-- THE TIED CARD OF 'testbenchlaw18.SearchFinds'. -/
def searchFindsCard : Claim7 := { stood := { row := searchFindsRow, standIns := [], harness := (true, "4ad9fe56fee56df96ddc6f5c5b98bb0ff50d6e51fc923210e8e4da96e3fd392f"), looks := false }, kinds := [], alts := [], laidByText := true, laidKinds := [.data, .data, .data, .widerDeep], laidTests := true, laidLooks := .later }
def SearchFindsCardSaid : Prop := Claim7.holds Tryz.pinned (.plain (OpenSpec.ofChange searchFindsSpec)) searchFindsCard

/-- THE TIED CARD OF 'testbenchlaw22.SoftSolves'. -/
def softSolvesCard : Claim7 := { stood := { row := softSolvesRow, standIns := [], harness := (true, "4ad9fe56fee56df96ddc6f5c5b98bb0ff50d6e51fc923210e8e4da96e3fd392f"), looks := false }, kinds := [], alts := [], laidByText := true, laidKinds := [.data, .data, .data, .widerDeep], laidTests := true, laidLooks := .later }
def SoftSolvesCardSaid : Prop := Claim7.holds Tryz.pinned (.plain (OpenSpec.ofChange softSolvesSpec)) softSolvesCard

/-- THE TIED CARD OF 'testbenchlaw25.CoreExplains'. -/
def coreExplainsCard : Claim7 := { stood := { row := coreExplainsRow, standIns := [], harness := (true, "4ad9fe56fee56df96ddc6f5c5b98bb0ff50d6e51fc923210e8e4da96e3fd392f"), looks := false }, kinds := [], alts := [], laidByText := true, laidKinds := [.data, .data, .data, .widerDeep], laidTests := true, laidLooks := .later }
def CoreExplainsCardSaid : Prop := Claim7.holds Tryz.pinned (.plain (OpenSpec.ofChange coreExplainsSpec)) coreExplainsCard

/-- THE TIED CARD OF 'testbenchlaw25.CoreLists'. -/
def coreListsCard : Claim7 := { stood := { row := coreListsRow, standIns := [], harness := (true, "4ad9fe56fee56df96ddc6f5c5b98bb0ff50d6e51fc923210e8e4da96e3fd392f"), looks := false }, kinds := [], alts := [], laidByText := true, laidKinds := [.data, .data, .data, .widerDeep], laidTests := true, laidLooks := .later }
def CoreListsCardSaid : Prop := Claim7.holds Tryz.pinned (.plain (OpenSpec.ofChange coreListsSpec)) coreListsCard

/-- THE TIED CARD OF 'testbenchlaw25.CoreMinimal'. -/
def coreMinimalCard : Claim7 := { stood := { row := coreMinimalRow, standIns := [], harness := (true, "4ad9fe56fee56df96ddc6f5c5b98bb0ff50d6e51fc923210e8e4da96e3fd392f"), looks := false }, kinds := [], alts := [], laidByText := true, laidKinds := [.data, .data, .data, .widerDeep], laidTests := true, laidLooks := .later }
def CoreMinimalCardSaid : Prop := Claim7.holds Tryz.pinned (.plain (OpenSpec.ofChange coreMinimalSpec)) coreMinimalCard

/-- THE TIED CARD OF 'testbenchlaw25.CoreDiffer'. -/
def coreDifferCard : Claim7 := { stood := { row := coreDifferRow, standIns := [], harness := (true, "4ad9fe56fee56df96ddc6f5c5b98bb0ff50d6e51fc923210e8e4da96e3fd392f"), looks := false }, kinds := [], alts := [], laidByText := true, laidKinds := [.data, .data, .data, .widerDeep], laidTests := true, laidLooks := .later }
def CoreDifferCardSaid : Prop := Claim7.holds Tryz.pinned (.plain (OpenSpec.ofChange coreDifferSpec)) coreDifferCard

/-- THE TIED CARD OF 'testbenchlaw25.CoreContradicts'. -/
def coreContradictsCard : Claim7 := { stood := { row := coreContradictsRow, standIns := [], harness := (true, "4ad9fe56fee56df96ddc6f5c5b98bb0ff50d6e51fc923210e8e4da96e3fd392f"), looks := false }, kinds := [], alts := [], laidByText := true, laidKinds := [.data, .data, .data, .widerDeep], laidTests := true, laidLooks := .later }
def CoreContradictsCardSaid : Prop := Claim7.holds Tryz.pinned (.plain (OpenSpec.ofChange coreContradictsSpec)) coreContradictsCard

/-- THE TIED CARD OF 'testbenchlaw25.CoreMonotone'. -/
def coreMonotoneCard : Claim7 := { stood := { row := coreMonotoneRow, standIns := [], harness := (true, "4ad9fe56fee56df96ddc6f5c5b98bb0ff50d6e51fc923210e8e4da96e3fd392f"), looks := false }, kinds := [], alts := [], laidByText := true, laidKinds := [.data, .data, .data, .widerDeep], laidTests := true, laidLooks := .later }
def CoreMonotoneCardSaid : Prop := Claim7.holds Tryz.pinned (.plain (OpenSpec.ofChange coreMonotoneSpec)) coreMonotoneCard

/-- THE SECOND FORM's CARD OF 'testbenchlaw18.SearchFinds'. -/
def searchFindsUptoCard : Claim7 := { stood := { row := searchFindsUptoRow, standIns := [], harness := (true, "4ad9fe56fee56df96ddc6f5c5b98bb0ff50d6e51fc923210e8e4da96e3fd392f"), looks := false }, kinds := [], alts := [], laidByText := true, laidKinds := [.data, .data, .data, .widerDeep], laidTests := true, laidLooks := .later }
def SearchFindsUptoCardSaid : Prop := Claim7.holds Tryz.pinned (.plain (OpenSpec.upto searchFindsSpec)) searchFindsUptoCard

/-- THE SECOND FORM's CARD OF 'testbenchlaw22.SoftSolves'. -/
def softSolvesUptoCard : Claim7 := { stood := { row := softSolvesUptoRow, standIns := [], harness := (true, "4ad9fe56fee56df96ddc6f5c5b98bb0ff50d6e51fc923210e8e4da96e3fd392f"), looks := false }, kinds := [], alts := [], laidByText := true, laidKinds := [.data, .data, .data, .widerDeep], laidTests := true, laidLooks := .later }
def SoftSolvesUptoCardSaid : Prop := Claim7.holds Tryz.pinned (.plain (OpenSpec.upto softSolvesSpec)) softSolvesUptoCard

/-- THE SECOND FORM's CARD OF 'testbenchlaw25.CoreExplains'. -/
def coreExplainsUptoCard : Claim7 := { stood := { row := coreExplainsUptoRow, standIns := [], harness := (true, "4ad9fe56fee56df96ddc6f5c5b98bb0ff50d6e51fc923210e8e4da96e3fd392f"), looks := false }, kinds := [], alts := [], laidByText := true, laidKinds := [.data, .data, .data, .widerDeep], laidTests := true, laidLooks := .later }
def CoreExplainsUptoCardSaid : Prop := Claim7.holds Tryz.pinned (.plain (OpenSpec.upto coreExplainsSpec)) coreExplainsUptoCard

/-- THE SECOND FORM's CARD OF 'testbenchlaw25.CoreLists'. -/
def coreListsUptoCard : Claim7 := { stood := { row := coreListsUptoRow, standIns := [], harness := (true, "4ad9fe56fee56df96ddc6f5c5b98bb0ff50d6e51fc923210e8e4da96e3fd392f"), looks := false }, kinds := [], alts := [], laidByText := true, laidKinds := [.data, .data, .data, .widerDeep], laidTests := true, laidLooks := .later }
def CoreListsUptoCardSaid : Prop := Claim7.holds Tryz.pinned (.plain (OpenSpec.upto coreListsSpec)) coreListsUptoCard

/-- THE SECOND FORM's CARD OF 'testbenchlaw25.CoreMinimal'. -/
def coreMinimalUptoCard : Claim7 := { stood := { row := coreMinimalUptoRow, standIns := [], harness := (true, "4ad9fe56fee56df96ddc6f5c5b98bb0ff50d6e51fc923210e8e4da96e3fd392f"), looks := false }, kinds := [], alts := [], laidByText := true, laidKinds := [.data, .data, .data, .widerDeep], laidTests := true, laidLooks := .later }
def CoreMinimalUptoCardSaid : Prop := Claim7.holds Tryz.pinned (.plain (OpenSpec.upto coreMinimalSpec)) coreMinimalUptoCard

/-- THE SECOND FORM's CARD OF 'testbenchlaw25.CoreDiffer'. -/
def coreDifferUptoCard : Claim7 := { stood := { row := coreDifferUptoRow, standIns := [], harness := (true, "4ad9fe56fee56df96ddc6f5c5b98bb0ff50d6e51fc923210e8e4da96e3fd392f"), looks := false }, kinds := [], alts := [], laidByText := true, laidKinds := [.data, .data, .data, .widerDeep], laidTests := true, laidLooks := .later }
def CoreDifferUptoCardSaid : Prop := Claim7.holds Tryz.pinned (.plain (OpenSpec.upto coreDifferSpec)) coreDifferUptoCard

/-- THE SECOND FORM's CARD OF 'testbenchlaw25.CoreContradicts'. -/
def coreContradictsUptoCard : Claim7 := { stood := { row := coreContradictsUptoRow, standIns := [], harness := (true, "4ad9fe56fee56df96ddc6f5c5b98bb0ff50d6e51fc923210e8e4da96e3fd392f"), looks := false }, kinds := [], alts := [], laidByText := true, laidKinds := [.data, .data, .data, .widerDeep], laidTests := true, laidLooks := .later }
def CoreContradictsUptoCardSaid : Prop := Claim7.holds Tryz.pinned (.plain (OpenSpec.upto coreContradictsSpec)) coreContradictsUptoCard

/-- THE SECOND FORM's CARD OF 'testbenchlaw25.CoreMonotone'. -/
def coreMonotoneUptoCard : Claim7 := { stood := { row := coreMonotoneUptoRow, standIns := [], harness := (true, "4ad9fe56fee56df96ddc6f5c5b98bb0ff50d6e51fc923210e8e4da96e3fd392f"), looks := false }, kinds := [], alts := [], laidByText := true, laidKinds := [.data, .data, .data, .widerDeep], laidTests := true, laidLooks := .later }
def CoreMonotoneUptoCardSaid : Prop := Claim7.holds Tryz.pinned (.plain (OpenSpec.upto coreMonotoneSpec)) coreMonotoneUptoCard
end Rows
end Go.Proofs.YtcplmcjbkpmhdaaGreatDoor
