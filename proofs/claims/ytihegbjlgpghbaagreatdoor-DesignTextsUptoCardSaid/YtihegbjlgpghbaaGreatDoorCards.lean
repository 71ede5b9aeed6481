/-
  DERIVED. GIVEN WITH THE SEED: THE CARDS: each row of YtihegbjlgpghbaaGreatDoorRows.lean that lists a variable, with what it lists TIED to the program's text (the seventh form; the later family's looks); each row that meets fmt, with fmt's text TOLD by the authors' own Lean function (tested against real Go, not proved from fmt's source: count such statements apart). THE CARD IS WHAT COUNTS. Prove the row's statement (the work); the ties are given (YtihegbjlgpghbaaGreatDoorTie.lean); close each card by the builder's one call (the guide's Derived/Test/ToyasCard.lean, 'card_holds'). Laid BY PROGRAM, IN A SANDBOX (cutbox-door.mjs). By AI agents, Wed Nov 11 2026. No macro, syntax, notation, axiom, sorry.
-/
import Derived.Test.YtihegbjlgpghbaaGreatDoorRows
import GoSem.ClaimSeven
namespace Go.Proofs.YtihegbjlgpghbaaGreatDoor
namespace Rows

/-- THE TIED CARD OF 'testbenchlaw32.SimSteps'. -/
def simStepsCard : Claim7 := { stood := { row := simStepsRow, standIns := [], harness := (true, "96c21e60d7c75f8b814b28fa78c157439ec0ff1f723d93aa9e74ac15e9cbfe61"), looks := false }, kinds := [], alts := [], laidByText := true, laidKinds := [.widerDeep], laidTests := true, laidLooks := .later }
def SimStepsCardSaid : Prop := Claim7.holds Tryz.pinned (.plain (OpenSpec.ofChange simStepsSpec)) simStepsCard

/-- THE TIED CARD OF 'testbenchlaw31.DesignChecks'. -/
def designChecksCard : Claim7 := { stood := { row := designChecksRow, standIns := [], harness := (true, "96c21e60d7c75f8b814b28fa78c157439ec0ff1f723d93aa9e74ac15e9cbfe61"), looks := false }, kinds := [], alts := [], laidByText := true, laidKinds := [.data, .data, .data, .widerDeep], laidTests := true, laidLooks := .later }
def DesignChecksCardSaid : Prop := Claim7.holds Tryz.pinned (.plain (OpenSpec.ofChange designChecksSpec)) designChecksCard

/-- THE TIED CARD OF 'testbenchlaw31.DesignWires'. -/
def designWiresCard : Claim7 := { stood := { row := designWiresRow, standIns := [], harness := (true, "96c21e60d7c75f8b814b28fa78c157439ec0ff1f723d93aa9e74ac15e9cbfe61"), looks := false }, kinds := [], alts := [], laidByText := true, laidKinds := [.data, .data, .data, .widerDeep], laidTests := true, laidLooks := .later }
def DesignWiresCardSaid : Prop := Claim7.holds Tryz.pinned (.plain (OpenSpec.ofChange designWiresSpec)) designWiresCard

/-- THE TIED CARD OF 'testbenchlaw31.DesignPrints'. -/
def designPrintsCard : Claim7 := { stood := { row := designPrintsRow, standIns := [], harness := (true, "96c21e60d7c75f8b814b28fa78c157439ec0ff1f723d93aa9e74ac15e9cbfe61"), looks := false }, kinds := [], alts := [], laidByText := true, laidKinds := [.data, .data, .data, .widerDeep], laidTests := true, laidLooks := .later }
def DesignPrintsCardSaid : Prop := Claim7.holds Tryz.pinned (.plain (OpenSpec.ofChange designPrintsSpec)) designPrintsCard

/-- THE TIED CARD OF 'testbenchlaw31.DesignOrders'. -/
def designOrdersCard : Claim7 := { stood := { row := designOrdersRow, standIns := [], harness := (true, "96c21e60d7c75f8b814b28fa78c157439ec0ff1f723d93aa9e74ac15e9cbfe61"), looks := false }, kinds := [], alts := [], laidByText := true, laidKinds := [.data, .data, .data, .widerDeep], laidTests := true, laidLooks := .later }
def DesignOrdersCardSaid : Prop := Claim7.holds Tryz.pinned (.plain (OpenSpec.ofChange designOrdersSpec)) designOrdersCard

/-- THE TIED CARD OF 'testbenchlaw31.DesignCones'. -/
def designConesCard : Claim7 := { stood := { row := designConesRow, standIns := [], harness := (true, "96c21e60d7c75f8b814b28fa78c157439ec0ff1f723d93aa9e74ac15e9cbfe61"), looks := false }, kinds := [], alts := [], laidByText := true, laidKinds := [.data, .data, .data, .widerDeep], laidTests := true, laidLooks := .later }
def DesignConesCardSaid : Prop := Claim7.holds Tryz.pinned (.plain (OpenSpec.ofChange designConesSpec)) designConesCard

/-- THE TIED CARD OF 'testbenchlaw31.DesignTexts'. -/
def designTextsCard : Claim7 := { stood := { row := designTextsRow, standIns := [], harness := (true, "96c21e60d7c75f8b814b28fa78c157439ec0ff1f723d93aa9e74ac15e9cbfe61"), looks := false }, kinds := [], alts := [], laidByText := true, laidKinds := [.data, .data, .data, .widerDeep], laidTests := true, laidLooks := .later }
def DesignTextsCardSaid : Prop := Claim7.holds Tryz.pinned (.plain (OpenSpec.ofChange designTextsSpec)) designTextsCard

/-- THE SECOND FORM's CARD OF 'testbenchlaw32.SimSteps'. -/
def simStepsUptoCard : Claim7 := { stood := { row := simStepsUptoRow, standIns := [], harness := (true, "96c21e60d7c75f8b814b28fa78c157439ec0ff1f723d93aa9e74ac15e9cbfe61"), looks := false }, kinds := [], alts := [], laidByText := true, laidKinds := [.widerDeep], laidTests := true, laidLooks := .later }
def SimStepsUptoCardSaid : Prop := Claim7.holds Tryz.pinned (.plain (OpenSpec.upto simStepsSpec)) simStepsUptoCard

/-- THE SECOND FORM's CARD OF 'testbenchlaw31.DesignChecks'. -/
def designChecksUptoCard : Claim7 := { stood := { row := designChecksUptoRow, standIns := [], harness := (true, "96c21e60d7c75f8b814b28fa78c157439ec0ff1f723d93aa9e74ac15e9cbfe61"), looks := false }, kinds := [], alts := [], laidByText := true, laidKinds := [.data, .data, .data, .widerDeep], laidTests := true, laidLooks := .later }
def DesignChecksUptoCardSaid : Prop := Claim7.holds Tryz.pinned (.plain (OpenSpec.upto designChecksSpec)) designChecksUptoCard

/-- THE SECOND FORM's CARD OF 'testbenchlaw31.DesignWires'. -/
def designWiresUptoCard : Claim7 := { stood := { row := designWiresUptoRow, standIns := [], harness := (true, "96c21e60d7c75f8b814b28fa78c157439ec0ff1f723d93aa9e74ac15e9cbfe61"), looks := false }, kinds := [], alts := [], laidByText := true, laidKinds := [.data, .data, .data, .widerDeep], laidTests := true, laidLooks := .later }
def DesignWiresUptoCardSaid : Prop := Claim7.holds Tryz.pinned (.plain (OpenSpec.upto designWiresSpec)) designWiresUptoCard

/-- THE SECOND FORM's CARD OF 'testbenchlaw31.DesignPrints'. -/
def designPrintsUptoCard : Claim7 := { stood := { row := designPrintsUptoRow, standIns := [], harness := (true, "96c21e60d7c75f8b814b28fa78c157439ec0ff1f723d93aa9e74ac15e9cbfe61"), looks := false }, kinds := [], alts := [], laidByText := true, laidKinds := [.data, .data, .data, .widerDeep], laidTests := true, laidLooks := .later }
def DesignPrintsUptoCardSaid : Prop := Claim7.holds Tryz.pinned (.plain (OpenSpec.upto designPrintsSpec)) designPrintsUptoCard

/-- THE SECOND FORM's CARD OF 'testbenchlaw31.DesignOrders'. -/
def designOrdersUptoCard : Claim7 := { stood := { row := designOrdersUptoRow, standIns := [], harness := (true, "96c21e60d7c75f8b814b28fa78c157439ec0ff1f723d93aa9e74ac15e9cbfe61"), looks := false }, kinds := [], alts := [], laidByText := true, laidKinds := [.data, .data, .data, .widerDeep], laidTests := true, laidLooks := .later }
def DesignOrdersUptoCardSaid : Prop := Claim7.holds Tryz.pinned (.plain (OpenSpec.upto designOrdersSpec)) designOrdersUptoCard

/-- THE SECOND FORM's CARD OF 'testbenchlaw31.DesignCones'. -/
def designConesUptoCard : Claim7 := { stood := { row := designConesUptoRow, standIns := [], harness := (true, "96c21e60d7c75f8b814b28fa78c157439ec0ff1f723d93aa9e74ac15e9cbfe61"), looks := false }, kinds := [], alts := [], laidByText := true, laidKinds := [.data, .data, .data, .widerDeep], laidTests := true, laidLooks := .later }
def DesignConesUptoCardSaid : Prop := Claim7.holds Tryz.pinned (.plain (OpenSpec.upto designConesSpec)) designConesUptoCard

/-- THE SECOND FORM's CARD OF 'testbenchlaw31.DesignTexts'. -/
def designTextsUptoCard : Claim7 := { stood := { row := designTextsUptoRow, standIns := [], harness := (true, "96c21e60d7c75f8b814b28fa78c157439ec0ff1f723d93aa9e74ac15e9cbfe61"), looks := false }, kinds := [], alts := [], laidByText := true, laidKinds := [.data, .data, .data, .widerDeep], laidTests := true, laidLooks := .later }
def DesignTextsUptoCardSaid : Prop := Claim7.holds Tryz.pinned (.plain (OpenSpec.upto designTextsSpec)) designTextsUptoCard
end Rows
end Go.Proofs.YtihegbjlgpghbaaGreatDoor
