/-
  DERIVED. GIVEN WITH THE SEED: THE CARDS: each row of YteaeemkodbodmaaGreatDoorRows.lean that lists a variable, with what it lists TIED to the program's text (the seventh form; the later family's looks); each row that meets fmt, with fmt's text TOLD by the authors' own Lean function (tested against real Go, not proved from fmt's source: count such statements apart). THE CARD IS WHAT COUNTS. Prove the row's statement (the work); the ties are given (YteaeemkodbodmaaGreatDoorTie.lean); close each card by the builder's one call (the guide's Derived/Test/ToyasCard.lean, 'card_holds'). Laid BY PROGRAM, IN A SANDBOX (cutbox-door.mjs). By AI agents, Wed Nov 11 2026. No macro, syntax, notation, axiom, sorry.
-/
import Derived.Test.YteaeemkodbodmaaGreatDoorRows
import GoSem.ClaimSeven
namespace Go.Proofs.YteaeemkodbodmaaGreatDoor
namespace Rows

/-- THE TIED CARD OF 'testbenchlaw32.SimResets'. -/
def simResetsCard : Claim7 := { stood := { row := simResetsRow, standIns := [], harness := (true, "cc12af563501c531d658747dd22de82e0ae615e43294f7bc634496ef7bbd4155"), looks := false }, kinds := [], alts := [], laidByText := true, laidKinds := [.widerDeep], laidTests := true, laidLooks := .later }
def SimResetsCardSaid : Prop := Claim7.holds Tryz.pinned (.plain (OpenSpec.ofChange simResetsSpec)) simResetsCard

/-- THE TIED CARD OF 'testbenchlaw32.SimRuns'. -/
def simRunsCard : Claim7 := { stood := { row := simRunsRow, standIns := [], harness := (true, "cc12af563501c531d658747dd22de82e0ae615e43294f7bc634496ef7bbd4155"), looks := false }, kinds := [], alts := [], laidByText := true, laidKinds := [.widerDeep], laidTests := true, laidLooks := .later }
def SimRunsCardSaid : Prop := Claim7.holds Tryz.pinned (.plain (OpenSpec.ofChange simRunsSpec)) simRunsCard

/-- THE TIED CARD OF 'testbenchlaw32.SimLimits'. -/
def simLimitsCard : Claim7 := { stood := { row := simLimitsRow, standIns := [], harness := (true, "cc12af563501c531d658747dd22de82e0ae615e43294f7bc634496ef7bbd4155"), looks := false }, kinds := [], alts := [], laidByText := true, laidKinds := [.widerDeep], laidTests := true, laidLooks := .later }
def SimLimitsCardSaid : Prop := Claim7.holds Tryz.pinned (.plain (OpenSpec.ofChange simLimitsSpec)) simLimitsCard

/-- THE TIED CARD OF 'testbenchlaw32.SimCones'. -/
def simConesCard : Claim7 := { stood := { row := simConesRow, standIns := [], harness := (true, "cc12af563501c531d658747dd22de82e0ae615e43294f7bc634496ef7bbd4155"), looks := false }, kinds := [], alts := [], laidByText := true, laidKinds := [.widerDeep], laidTests := true, laidLooks := .later }
def SimConesCardSaid : Prop := Claim7.holds Tryz.pinned (.plain (OpenSpec.ofChange simConesSpec)) simConesCard

/-- THE TIED CARD OF 'testbenchlaw32.SimComposes'. -/
def simComposesCard : Claim7 := { stood := { row := simComposesRow, standIns := [], harness := (true, "cc12af563501c531d658747dd22de82e0ae615e43294f7bc634496ef7bbd4155"), looks := false }, kinds := [], alts := [], laidByText := true, laidKinds := [.widerDeep], laidTests := true, laidLooks := .later }
def SimComposesCardSaid : Prop := Claim7.holds Tryz.pinned (.plain (OpenSpec.ofChange simComposesSpec)) simComposesCard

/-- THE TIED CARD OF 'testbenchlaw32.SimFits'. -/
def simFitsCard : Claim7 := { stood := { row := simFitsRow, standIns := [], harness := (true, "cc12af563501c531d658747dd22de82e0ae615e43294f7bc634496ef7bbd4155"), looks := false }, kinds := [], alts := [], laidByText := true, laidKinds := [.widerDeep], laidTests := true, laidLooks := .later }
def SimFitsCardSaid : Prop := Claim7.holds Tryz.pinned (.plain (OpenSpec.ofChange simFitsSpec)) simFitsCard

/-- THE TIED CARD OF 'testbenchlaw32.SimSteps'. -/
def simStepsCard : Claim7 := { stood := { row := simStepsRow, standIns := [], harness := (true, "cc12af563501c531d658747dd22de82e0ae615e43294f7bc634496ef7bbd4155"), looks := false }, kinds := [], alts := [], laidByText := true, laidKinds := [.widerDeep], laidTests := true, laidLooks := .later }
def SimStepsCardSaid : Prop := Claim7.holds Tryz.pinned (.plain (OpenSpec.ofChange simStepsSpec)) simStepsCard

/-- THE SECOND FORM's CARD OF 'testbenchlaw32.SimResets'. -/
def simResetsUptoCard : Claim7 := { stood := { row := simResetsUptoRow, standIns := [], harness := (true, "cc12af563501c531d658747dd22de82e0ae615e43294f7bc634496ef7bbd4155"), looks := false }, kinds := [], alts := [], laidByText := true, laidKinds := [.widerDeep], laidTests := true, laidLooks := .later }
def SimResetsUptoCardSaid : Prop := Claim7.holds Tryz.pinned (.plain (OpenSpec.upto simResetsSpec)) simResetsUptoCard

/-- THE SECOND FORM's CARD OF 'testbenchlaw32.SimRuns'. -/
def simRunsUptoCard : Claim7 := { stood := { row := simRunsUptoRow, standIns := [], harness := (true, "cc12af563501c531d658747dd22de82e0ae615e43294f7bc634496ef7bbd4155"), looks := false }, kinds := [], alts := [], laidByText := true, laidKinds := [.widerDeep], laidTests := true, laidLooks := .later }
def SimRunsUptoCardSaid : Prop := Claim7.holds Tryz.pinned (.plain (OpenSpec.upto simRunsSpec)) simRunsUptoCard

/-- THE SECOND FORM's CARD OF 'testbenchlaw32.SimLimits'. -/
def simLimitsUptoCard : Claim7 := { stood := { row := simLimitsUptoRow, standIns := [], harness := (true, "cc12af563501c531d658747dd22de82e0ae615e43294f7bc634496ef7bbd4155"), looks := false }, kinds := [], alts := [], laidByText := true, laidKinds := [.widerDeep], laidTests := true, laidLooks := .later }
def SimLimitsUptoCardSaid : Prop := Claim7.holds Tryz.pinned (.plain (OpenSpec.upto simLimitsSpec)) simLimitsUptoCard

/-- THE SECOND FORM's CARD OF 'testbenchlaw32.SimCones'. -/
def simConesUptoCard : Claim7 := { stood := { row := simConesUptoRow, standIns := [], harness := (true, "cc12af563501c531d658747dd22de82e0ae615e43294f7bc634496ef7bbd4155"), looks := false }, kinds := [], alts := [], laidByText := true, laidKinds := [.widerDeep], laidTests := true, laidLooks := .later }
def SimConesUptoCardSaid : Prop := Claim7.holds Tryz.pinned (.plain (OpenSpec.upto simConesSpec)) simConesUptoCard

/-- THE SECOND FORM's CARD OF 'testbenchlaw32.SimComposes'. -/
def simComposesUptoCard : Claim7 := { stood := { row := simComposesUptoRow, standIns := [], harness := (true, "cc12af563501c531d658747dd22de82e0ae615e43294f7bc634496ef7bbd4155"), looks := false }, kinds := [], alts := [], laidByText := true, laidKinds := [.widerDeep], laidTests := true, laidLooks := .later }
def SimComposesUptoCardSaid : Prop := Claim7.holds Tryz.pinned (.plain (OpenSpec.upto simComposesSpec)) simComposesUptoCard

/-- THE SECOND FORM's CARD OF 'testbenchlaw32.SimFits'. -/
def simFitsUptoCard : Claim7 := { stood := { row := simFitsUptoRow, standIns := [], harness := (true, "cc12af563501c531d658747dd22de82e0ae615e43294f7bc634496ef7bbd4155"), looks := false }, kinds := [], alts := [], laidByText := true, laidKinds := [.widerDeep], laidTests := true, laidLooks := .later }
def SimFitsUptoCardSaid : Prop := Claim7.holds Tryz.pinned (.plain (OpenSpec.upto simFitsSpec)) simFitsUptoCard

/-- THE SECOND FORM's CARD OF 'testbenchlaw32.SimSteps'. -/
def simStepsUptoCard : Claim7 := { stood := { row := simStepsUptoRow, standIns := [], harness := (true, "cc12af563501c531d658747dd22de82e0ae615e43294f7bc634496ef7bbd4155"), looks := false }, kinds := [], alts := [], laidByText := true, laidKinds := [.widerDeep], laidTests := true, laidLooks := .later }
def SimStepsUptoCardSaid : Prop := Claim7.holds Tryz.pinned (.plain (OpenSpec.upto simStepsSpec)) simStepsUptoCard
end Rows
end Go.Proofs.YteaeemkodbodmaaGreatDoor
