/-
  DERIVED. GIVEN WITH THE SEED: THE CARDS: each row of YtnfkbliokjjggaaGreatDoorRows.lean that lists a variable, with what it lists TIED to the program's text (the seventh form; the later family's looks); each row that meets fmt, with fmt's text TOLD by the authors' own Lean function (tested against real Go, not proved from fmt's source: count such statements apart). THE CARD IS WHAT COUNTS. Prove the row's statement (the work); the ties are given (YtnfkbliokjjggaaGreatDoorTie.lean); close each card by the builder's one call (the guide's Derived/Test/ToyasCard.lean, 'card_holds'). Laid BY PROGRAM, IN A SANDBOX (cutbox-door.mjs). By AI agents, Wed Nov 11 2026. No macro, syntax, notation, axiom, sorry.
-/
import Derived.Test.YtnfkbliokjjggaaGreatDoorRows
import GoSem.ClaimSeven
namespace Go.Proofs.YtnfkbliokjjggaaGreatDoor
namespace Rows

/-- THE TIED CARD OF 'testbenchlaw41.NfaCompiles'. -/
def nfaCompilesCard : Claim7 := { stood := { row := nfaCompilesRow, standIns := [], harness := (true, "5d8a4c790da6259b6c3a4e8617f292cab0ec50dc0f9ce9c916fab2605be83a65"), looks := false }, kinds := [], alts := [], laidByText := true, laidKinds := [.widerDeep], laidTests := true, laidLooks := .later }
def NfaCompilesCardSaid : Prop := Claim7.holds Tryz.pinned (.plain (OpenSpec.ofChange nfaCompilesSpec)) nfaCompilesCard

/-- THE TIED CARD OF 'testbenchlaw41.NfaChecks'. -/
def nfaChecksCard : Claim7 := { stood := { row := nfaChecksRow, standIns := [], harness := (true, "5d8a4c790da6259b6c3a4e8617f292cab0ec50dc0f9ce9c916fab2605be83a65"), looks := false }, kinds := [], alts := [], laidByText := true, laidKinds := [.data, .data, .data, .widerDeep], laidTests := true, laidLooks := .later }
def NfaChecksCardSaid : Prop := Claim7.holds Tryz.pinned (.plain (OpenSpec.ofChange nfaChecksSpec)) nfaChecksCard

/-- THE TIED CARD OF 'testbenchlaw43.CheckerStays'. -/
def checkerStaysCard : Claim7 := { stood := { row := checkerStaysRow, standIns := [], harness := (true, "5d8a4c790da6259b6c3a4e8617f292cab0ec50dc0f9ce9c916fab2605be83a65"), looks := false }, kinds := [], alts := [], laidByText := true, laidKinds := [.widerDeep], laidTests := true, laidLooks := .later }
def CheckerStaysCardSaid : Prop := Claim7.holds Tryz.pinned (.plain (OpenSpec.ofChange checkerStaysSpec)) checkerStaysCard

/-- THE TIED CARD OF 'testbenchlaw43.CheckerShifts'. -/
def checkerShiftsCard : Claim7 := { stood := { row := checkerShiftsRow, standIns := [], harness := (true, "5d8a4c790da6259b6c3a4e8617f292cab0ec50dc0f9ce9c916fab2605be83a65"), looks := false }, kinds := [], alts := [], laidByText := true, laidKinds := [.widerDeep], laidTests := true, laidLooks := .later }
def CheckerShiftsCardSaid : Prop := Claim7.holds Tryz.pinned (.plain (OpenSpec.ofChange checkerShiftsSpec)) checkerShiftsCard

/-- THE TIED CARD OF 'testbenchlaw44.VacuityTallies'. -/
def vacuityTalliesCard : Claim7 := { stood := { row := vacuityTalliesRow, standIns := [], harness := (true, "5d8a4c790da6259b6c3a4e8617f292cab0ec50dc0f9ce9c916fab2605be83a65"), looks := false }, kinds := [], alts := [], laidByText := true, laidKinds := [.data, .data, .data, .widerDeep], laidTests := true, laidLooks := .later }
def VacuityTalliesCardSaid : Prop := Claim7.holds Tryz.pinned (.plain (OpenSpec.ofChange vacuityTalliesSpec)) vacuityTalliesCard

/-- THE SECOND FORM's CARD OF 'testbenchlaw41.NfaCompiles'. -/
def nfaCompilesUptoCard : Claim7 := { stood := { row := nfaCompilesUptoRow, standIns := [], harness := (true, "5d8a4c790da6259b6c3a4e8617f292cab0ec50dc0f9ce9c916fab2605be83a65"), looks := false }, kinds := [], alts := [], laidByText := true, laidKinds := [.widerDeep], laidTests := true, laidLooks := .later }
def NfaCompilesUptoCardSaid : Prop := Claim7.holds Tryz.pinned (.plain (OpenSpec.upto nfaCompilesSpec)) nfaCompilesUptoCard

/-- THE SECOND FORM's CARD OF 'testbenchlaw41.NfaChecks'. -/
def nfaChecksUptoCard : Claim7 := { stood := { row := nfaChecksUptoRow, standIns := [], harness := (true, "5d8a4c790da6259b6c3a4e8617f292cab0ec50dc0f9ce9c916fab2605be83a65"), looks := false }, kinds := [], alts := [], laidByText := true, laidKinds := [.data, .data, .data, .widerDeep], laidTests := true, laidLooks := .later }
def NfaChecksUptoCardSaid : Prop := Claim7.holds Tryz.pinned (.plain (OpenSpec.upto nfaChecksSpec)) nfaChecksUptoCard

/-- THE SECOND FORM's CARD OF 'testbenchlaw43.CheckerStays'. -/
def checkerStaysUptoCard : Claim7 := { stood := { row := checkerStaysUptoRow, standIns := [], harness := (true, "5d8a4c790da6259b6c3a4e8617f292cab0ec50dc0f9ce9c916fab2605be83a65"), looks := false }, kinds := [], alts := [], laidByText := true, laidKinds := [.widerDeep], laidTests := true, laidLooks := .later }
def CheckerStaysUptoCardSaid : Prop := Claim7.holds Tryz.pinned (.plain (OpenSpec.upto checkerStaysSpec)) checkerStaysUptoCard

/-- THE SECOND FORM's CARD OF 'testbenchlaw43.CheckerShifts'. -/
def checkerShiftsUptoCard : Claim7 := { stood := { row := checkerShiftsUptoRow, standIns := [], harness := (true, "5d8a4c790da6259b6c3a4e8617f292cab0ec50dc0f9ce9c916fab2605be83a65"), looks := false }, kinds := [], alts := [], laidByText := true, laidKinds := [.widerDeep], laidTests := true, laidLooks := .later }
def CheckerShiftsUptoCardSaid : Prop := Claim7.holds Tryz.pinned (.plain (OpenSpec.upto checkerShiftsSpec)) checkerShiftsUptoCard

/-- THE SECOND FORM's CARD OF 'testbenchlaw44.VacuityTallies'. -/
def vacuityTalliesUptoCard : Claim7 := { stood := { row := vacuityTalliesUptoRow, standIns := [], harness := (true, "5d8a4c790da6259b6c3a4e8617f292cab0ec50dc0f9ce9c916fab2605be83a65"), looks := false }, kinds := [], alts := [], laidByText := true, laidKinds := [.data, .data, .data, .widerDeep], laidTests := true, laidLooks := .later }
def VacuityTalliesUptoCardSaid : Prop := Claim7.holds Tryz.pinned (.plain (OpenSpec.upto vacuityTalliesSpec)) vacuityTalliesUptoCard
end Rows
end Go.Proofs.YtnfkbliokjjggaaGreatDoor
