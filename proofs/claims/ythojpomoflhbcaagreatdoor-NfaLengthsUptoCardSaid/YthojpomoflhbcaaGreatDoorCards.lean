/-
  DERIVED. GIVEN WITH THE SEED: THE CARDS: each row of YthojpomoflhbcaaGreatDoorRows.lean that lists a variable, with what it lists TIED to the program's text (the seventh form; the later family's looks); each row that meets fmt, with fmt's text TOLD by the authors' own Lean function (tested against real Go, not proved from fmt's source: count such statements apart). THE CARD IS WHAT COUNTS. Prove the row's statement (the work); the ties are given (YthojpomoflhbcaaGreatDoorTie.lean); close each card by the builder's one call (the guide's Derived/Test/ToyasCard.lean, 'card_holds'). Laid BY PROGRAM, IN A SANDBOX (cutbox-door.mjs). By AI agents, Wed Nov 11 2026. No macro, syntax, notation, axiom, sorry.
-/
import Derived.Test.YthojpomoflhbcaaGreatDoorRows
import GoSem.ClaimSeven
namespace Go.Proofs.YthojpomoflhbcaaGreatDoor
namespace Rows

/-- THE TIED CARD OF 'testbenchlaw41.NfaCompiles'. -/
def nfaCompilesCard : Claim7 := { stood := { row := nfaCompilesRow, standIns := [], harness := (true, "bc8239d33b4276b255d56140957e3dcae881f52fa98d7b20c2c63e565f9da895"), looks := false }, kinds := [], alts := [], laidByText := true, laidKinds := [.widerDeep], laidTests := true, laidLooks := .later }
def NfaCompilesCardSaid : Prop := Claim7.holds Tryz.pinned (.plain (OpenSpec.ofChange nfaCompilesSpec)) nfaCompilesCard

/-- THE TIED CARD OF 'testbenchlaw41.NfaSteps'. -/
def nfaStepsCard : Claim7 := { stood := { row := nfaStepsRow, standIns := [], harness := (true, "bc8239d33b4276b255d56140957e3dcae881f52fa98d7b20c2c63e565f9da895"), looks := false }, kinds := [], alts := [], laidByText := true, laidKinds := [.widerDeep], laidTests := true, laidLooks := .later }
def NfaStepsCardSaid : Prop := Claim7.holds Tryz.pinned (.plain (OpenSpec.ofChange nfaStepsSpec)) nfaStepsCard

/-- THE TIED CARD OF 'testbenchlaw41.NfaStarts'. -/
def nfaStartsCard : Claim7 := { stood := { row := nfaStartsRow, standIns := [], harness := (true, "bc8239d33b4276b255d56140957e3dcae881f52fa98d7b20c2c63e565f9da895"), looks := false }, kinds := [], alts := [], laidByText := true, laidKinds := [.widerDeep], laidTests := true, laidLooks := .later }
def NfaStartsCardSaid : Prop := Claim7.holds Tryz.pinned (.plain (OpenSpec.ofChange nfaStartsSpec)) nfaStartsCard

/-- THE TIED CARD OF 'testbenchlaw41.NfaMatches'. -/
def nfaMatchesCard : Claim7 := { stood := { row := nfaMatchesRow, standIns := [], harness := (true, "bc8239d33b4276b255d56140957e3dcae881f52fa98d7b20c2c63e565f9da895"), looks := false }, kinds := [], alts := [], laidByText := true, laidKinds := [.widerDeep], laidTests := true, laidLooks := .later }
def NfaMatchesCardSaid : Prop := Claim7.holds Tryz.pinned (.plain (OpenSpec.ofChange nfaMatchesSpec)) nfaMatchesCard

/-- THE TIED CARD OF 'testbenchlaw41.NfaUseful'. -/
def nfaUsefulCard : Claim7 := { stood := { row := nfaUsefulRow, standIns := [], harness := (true, "bc8239d33b4276b255d56140957e3dcae881f52fa98d7b20c2c63e565f9da895"), looks := false }, kinds := [], alts := [], laidByText := true, laidKinds := [.widerDeep], laidTests := true, laidLooks := .later }
def NfaUsefulCardSaid : Prop := Claim7.holds Tryz.pinned (.plain (OpenSpec.ofChange nfaUsefulSpec)) nfaUsefulCard

/-- THE TIED CARD OF 'testbenchlaw41.NfaLengths'. -/
def nfaLengthsCard : Claim7 := { stood := { row := nfaLengthsRow, standIns := [], harness := (true, "bc8239d33b4276b255d56140957e3dcae881f52fa98d7b20c2c63e565f9da895"), looks := false }, kinds := [], alts := [], laidByText := true, laidKinds := [.widerDeep], laidTests := true, laidLooks := .later }
def NfaLengthsCardSaid : Prop := Claim7.holds Tryz.pinned (.plain (OpenSpec.ofChange nfaLengthsSpec)) nfaLengthsCard

/-- THE TIED CARD OF 'testbenchlaw41.NfaTrims'. -/
def nfaTrimsCard : Claim7 := { stood := { row := nfaTrimsRow, standIns := [], harness := (true, "bc8239d33b4276b255d56140957e3dcae881f52fa98d7b20c2c63e565f9da895"), looks := false }, kinds := [], alts := [], laidByText := true, laidKinds := [.widerDeep], laidTests := true, laidLooks := .later }
def NfaTrimsCardSaid : Prop := Claim7.holds Tryz.pinned (.plain (OpenSpec.ofChange nfaTrimsSpec)) nfaTrimsCard

/-- THE TIED CARD OF 'testbenchlaw41.NfaChecks'. -/
def nfaChecksCard : Claim7 := { stood := { row := nfaChecksRow, standIns := [], harness := (true, "bc8239d33b4276b255d56140957e3dcae881f52fa98d7b20c2c63e565f9da895"), looks := false }, kinds := [], alts := [], laidByText := true, laidKinds := [.data, .data, .data, .widerDeep], laidTests := true, laidLooks := .later }
def NfaChecksCardSaid : Prop := Claim7.holds Tryz.pinned (.plain (OpenSpec.ofChange nfaChecksSpec)) nfaChecksCard

/-- THE SECOND FORM's CARD OF 'testbenchlaw41.NfaCompiles'. -/
def nfaCompilesUptoCard : Claim7 := { stood := { row := nfaCompilesUptoRow, standIns := [], harness := (true, "bc8239d33b4276b255d56140957e3dcae881f52fa98d7b20c2c63e565f9da895"), looks := false }, kinds := [], alts := [], laidByText := true, laidKinds := [.widerDeep], laidTests := true, laidLooks := .later }
def NfaCompilesUptoCardSaid : Prop := Claim7.holds Tryz.pinned (.plain (OpenSpec.upto nfaCompilesSpec)) nfaCompilesUptoCard

/-- THE SECOND FORM's CARD OF 'testbenchlaw41.NfaSteps'. -/
def nfaStepsUptoCard : Claim7 := { stood := { row := nfaStepsUptoRow, standIns := [], harness := (true, "bc8239d33b4276b255d56140957e3dcae881f52fa98d7b20c2c63e565f9da895"), looks := false }, kinds := [], alts := [], laidByText := true, laidKinds := [.widerDeep], laidTests := true, laidLooks := .later }
def NfaStepsUptoCardSaid : Prop := Claim7.holds Tryz.pinned (.plain (OpenSpec.upto nfaStepsSpec)) nfaStepsUptoCard

/-- THE SECOND FORM's CARD OF 'testbenchlaw41.NfaStarts'. -/
def nfaStartsUptoCard : Claim7 := { stood := { row := nfaStartsUptoRow, standIns := [], harness := (true, "bc8239d33b4276b255d56140957e3dcae881f52fa98d7b20c2c63e565f9da895"), looks := false }, kinds := [], alts := [], laidByText := true, laidKinds := [.widerDeep], laidTests := true, laidLooks := .later }
def NfaStartsUptoCardSaid : Prop := Claim7.holds Tryz.pinned (.plain (OpenSpec.upto nfaStartsSpec)) nfaStartsUptoCard

/-- THE SECOND FORM's CARD OF 'testbenchlaw41.NfaMatches'. -/
def nfaMatchesUptoCard : Claim7 := { stood := { row := nfaMatchesUptoRow, standIns := [], harness := (true, "bc8239d33b4276b255d56140957e3dcae881f52fa98d7b20c2c63e565f9da895"), looks := false }, kinds := [], alts := [], laidByText := true, laidKinds := [.widerDeep], laidTests := true, laidLooks := .later }
def NfaMatchesUptoCardSaid : Prop := Claim7.holds Tryz.pinned (.plain (OpenSpec.upto nfaMatchesSpec)) nfaMatchesUptoCard

/-- THE SECOND FORM's CARD OF 'testbenchlaw41.NfaUseful'. -/
def nfaUsefulUptoCard : Claim7 := { stood := { row := nfaUsefulUptoRow, standIns := [], harness := (true, "bc8239d33b4276b255d56140957e3dcae881f52fa98d7b20c2c63e565f9da895"), looks := false }, kinds := [], alts := [], laidByText := true, laidKinds := [.widerDeep], laidTests := true, laidLooks := .later }
def NfaUsefulUptoCardSaid : Prop := Claim7.holds Tryz.pinned (.plain (OpenSpec.upto nfaUsefulSpec)) nfaUsefulUptoCard

/-- THE SECOND FORM's CARD OF 'testbenchlaw41.NfaLengths'. -/
def nfaLengthsUptoCard : Claim7 := { stood := { row := nfaLengthsUptoRow, standIns := [], harness := (true, "bc8239d33b4276b255d56140957e3dcae881f52fa98d7b20c2c63e565f9da895"), looks := false }, kinds := [], alts := [], laidByText := true, laidKinds := [.widerDeep], laidTests := true, laidLooks := .later }
def NfaLengthsUptoCardSaid : Prop := Claim7.holds Tryz.pinned (.plain (OpenSpec.upto nfaLengthsSpec)) nfaLengthsUptoCard

/-- THE SECOND FORM's CARD OF 'testbenchlaw41.NfaTrims'. -/
def nfaTrimsUptoCard : Claim7 := { stood := { row := nfaTrimsUptoRow, standIns := [], harness := (true, "bc8239d33b4276b255d56140957e3dcae881f52fa98d7b20c2c63e565f9da895"), looks := false }, kinds := [], alts := [], laidByText := true, laidKinds := [.widerDeep], laidTests := true, laidLooks := .later }
def NfaTrimsUptoCardSaid : Prop := Claim7.holds Tryz.pinned (.plain (OpenSpec.upto nfaTrimsSpec)) nfaTrimsUptoCard

/-- THE SECOND FORM's CARD OF 'testbenchlaw41.NfaChecks'. -/
def nfaChecksUptoCard : Claim7 := { stood := { row := nfaChecksUptoRow, standIns := [], harness := (true, "bc8239d33b4276b255d56140957e3dcae881f52fa98d7b20c2c63e565f9da895"), looks := false }, kinds := [], alts := [], laidByText := true, laidKinds := [.data, .data, .data, .widerDeep], laidTests := true, laidLooks := .later }
def NfaChecksUptoCardSaid : Prop := Claim7.holds Tryz.pinned (.plain (OpenSpec.upto nfaChecksSpec)) nfaChecksUptoCard
end Rows
end Go.Proofs.YthojpomoflhbcaaGreatDoor
