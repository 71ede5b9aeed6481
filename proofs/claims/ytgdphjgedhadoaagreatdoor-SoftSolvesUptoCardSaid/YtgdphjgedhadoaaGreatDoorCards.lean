/-
  DERIVED. GIVEN WITH THE SEED: THE CARDS: each row of YtgdphjgedhadoaaGreatDoorRows.lean that lists a variable, with what it lists TIED to the program's text (the seventh form; the later family's looks); each row that meets fmt, with fmt's text TOLD by the authors' own Lean function (tested against real Go, not proved from fmt's source: count such statements apart). THE CARD IS WHAT COUNTS. Prove the row's statement (the work); the ties are given (YtgdphjgedhadoaaGreatDoorTie.lean); close each card by the builder's one call (the guide's Derived/Test/ToyasCard.lean, 'card_holds'). Laid BY PROGRAM, IN A SANDBOX (cutbox-door.mjs). By AI agents, Wed Nov 11 2026. No macro, syntax, notation, axiom, sorry.
-/
import Derived.Test.YtgdphjgedhadoaaGreatDoorRows
import GoSem.ClaimSeven
namespace Go.Proofs.YtgdphjgedhadoaaGreatDoor
namespace Rows

/-- THE TIED CARD OF 'testbenchlaw18.SearchFinds'. -/
def searchFindsCard : Claim7 := { stood := { row := searchFindsRow, standIns := [], harness := (true, "f423cc2d164d8f46b2267f38f1d42c6032256db4232801ecbba94ad87221db36"), looks := false }, kinds := [], alts := [], laidByText := true, laidKinds := [.data, .data, .data, .widerDeep], laidTests := true, laidLooks := .later }
def SearchFindsCardSaid : Prop := Claim7.holds Tryz.pinned (.plain (OpenSpec.ofChange searchFindsSpec)) searchFindsCard

/-- THE TIED CARD OF 'testbenchlaw18.SearchNext'. -/
def searchNextCard : Claim7 := { stood := { row := searchNextRow, standIns := [], harness := (true, "f423cc2d164d8f46b2267f38f1d42c6032256db4232801ecbba94ad87221db36"), looks := false }, kinds := [], alts := [], laidByText := true, laidKinds := [.data, .data, .data, .widerDeep], laidTests := true, laidLooks := .later }
def SearchNextCardSaid : Prop := Claim7.holds Tryz.pinned (.plain (OpenSpec.ofChange searchNextSpec)) searchNextCard

/-- THE TIED CARD OF 'testbenchlaw18.SearchLeast'. -/
def searchLeastCard : Claim7 := { stood := { row := searchLeastRow, standIns := [], harness := (true, "f423cc2d164d8f46b2267f38f1d42c6032256db4232801ecbba94ad87221db36"), looks := false }, kinds := [], alts := [], laidByText := true, laidKinds := [.data, .data, .data, .widerDeep], laidTests := true, laidLooks := .later }
def SearchLeastCardSaid : Prop := Claim7.holds Tryz.pinned (.plain (OpenSpec.ofChange searchLeastSpec)) searchLeastCard

/-- THE TIED CARD OF 'testbenchlaw18.SearchAll'. -/
def searchAllCard : Claim7 := { stood := { row := searchAllRow, standIns := [], harness := (true, "f423cc2d164d8f46b2267f38f1d42c6032256db4232801ecbba94ad87221db36"), looks := false }, kinds := [], alts := [], laidByText := true, laidKinds := [.data, .data, .data, .widerDeep], laidTests := true, laidLooks := .later }
def SearchAllCardSaid : Prop := Claim7.holds Tryz.pinned (.plain (OpenSpec.ofChange searchAllSpec)) searchAllCard

/-- THE TIED CARD OF 'testbenchlaw18.SearchWalks'. -/
def searchWalksCard : Claim7 := { stood := { row := searchWalksRow, standIns := [], harness := (true, "f423cc2d164d8f46b2267f38f1d42c6032256db4232801ecbba94ad87221db36"), looks := false }, kinds := [], alts := [], laidByText := true, laidKinds := [.data, .data, .data, .widerDeep], laidTests := true, laidLooks := .later }
def SearchWalksCardSaid : Prop := Claim7.holds Tryz.pinned (.plain (OpenSpec.ofChange searchWalksSpec)) searchWalksCard

/-- THE TIED CARD OF 'testbenchlaw22.SoftKeeps'. -/
def softKeepsCard : Claim7 := { stood := { row := softKeepsRow, standIns := [], harness := (true, "f423cc2d164d8f46b2267f38f1d42c6032256db4232801ecbba94ad87221db36"), looks := false }, kinds := [], alts := [], laidByText := true, laidKinds := [.data, .data, .data, .widerDeep], laidTests := true, laidLooks := .later }
def SoftKeepsCardSaid : Prop := Claim7.holds Tryz.pinned (.plain (OpenSpec.ofChange softKeepsSpec)) softKeepsCard

/-- THE TIED CARD OF 'testbenchlaw22.SoftGreatest'. -/
def softGreatestCard : Claim7 := { stood := { row := softGreatestRow, standIns := [], harness := (true, "f423cc2d164d8f46b2267f38f1d42c6032256db4232801ecbba94ad87221db36"), looks := false }, kinds := [], alts := [], laidByText := true, laidKinds := [.data, .data, .data, .widerDeep], laidTests := true, laidLooks := .later }
def SoftGreatestCardSaid : Prop := Claim7.holds Tryz.pinned (.plain (OpenSpec.ofChange softGreatestSpec)) softGreatestCard

/-- THE TIED CARD OF 'testbenchlaw22.SoftOrder'. -/
def softOrderCard : Claim7 := { stood := { row := softOrderRow, standIns := [], harness := (true, "f423cc2d164d8f46b2267f38f1d42c6032256db4232801ecbba94ad87221db36"), looks := false }, kinds := [], alts := [], laidByText := true, laidKinds := [.data, .data, .data, .widerDeep], laidTests := true, laidLooks := .later }
def SoftOrderCardSaid : Prop := Claim7.holds Tryz.pinned (.plain (OpenSpec.ofChange softOrderSpec)) softOrderCard

/-- THE TIED CARD OF 'testbenchlaw22.SoftRules'. -/
def softRulesCard : Claim7 := { stood := { row := softRulesRow, standIns := [], harness := (true, "f423cc2d164d8f46b2267f38f1d42c6032256db4232801ecbba94ad87221db36"), looks := false }, kinds := [], alts := [], laidByText := true, laidKinds := [.data, .data, .data, .widerDeep], laidTests := true, laidLooks := .later }
def SoftRulesCardSaid : Prop := Claim7.holds Tryz.pinned (.plain (OpenSpec.ofChange softRulesSpec)) softRulesCard

/-- THE TIED CARD OF 'testbenchlaw22.SoftSolves'. -/
def softSolvesCard : Claim7 := { stood := { row := softSolvesRow, standIns := [], harness := (true, "f423cc2d164d8f46b2267f38f1d42c6032256db4232801ecbba94ad87221db36"), looks := false }, kinds := [], alts := [], laidByText := true, laidKinds := [.data, .data, .data, .widerDeep], laidTests := true, laidLooks := .later }
def SoftSolvesCardSaid : Prop := Claim7.holds Tryz.pinned (.plain (OpenSpec.ofChange softSolvesSpec)) softSolvesCard

/-- THE SECOND FORM's CARD OF 'testbenchlaw18.SearchFinds'. -/
def searchFindsUptoCard : Claim7 := { stood := { row := searchFindsUptoRow, standIns := [], harness := (true, "f423cc2d164d8f46b2267f38f1d42c6032256db4232801ecbba94ad87221db36"), looks := false }, kinds := [], alts := [], laidByText := true, laidKinds := [.data, .data, .data, .widerDeep], laidTests := true, laidLooks := .later }
def SearchFindsUptoCardSaid : Prop := Claim7.holds Tryz.pinned (.plain (OpenSpec.upto searchFindsSpec)) searchFindsUptoCard

/-- THE SECOND FORM's CARD OF 'testbenchlaw18.SearchNext'. -/
def searchNextUptoCard : Claim7 := { stood := { row := searchNextUptoRow, standIns := [], harness := (true, "f423cc2d164d8f46b2267f38f1d42c6032256db4232801ecbba94ad87221db36"), looks := false }, kinds := [], alts := [], laidByText := true, laidKinds := [.data, .data, .data, .widerDeep], laidTests := true, laidLooks := .later }
def SearchNextUptoCardSaid : Prop := Claim7.holds Tryz.pinned (.plain (OpenSpec.upto searchNextSpec)) searchNextUptoCard

/-- THE SECOND FORM's CARD OF 'testbenchlaw18.SearchLeast'. -/
def searchLeastUptoCard : Claim7 := { stood := { row := searchLeastUptoRow, standIns := [], harness := (true, "f423cc2d164d8f46b2267f38f1d42c6032256db4232801ecbba94ad87221db36"), looks := false }, kinds := [], alts := [], laidByText := true, laidKinds := [.data, .data, .data, .widerDeep], laidTests := true, laidLooks := .later }
def SearchLeastUptoCardSaid : Prop := Claim7.holds Tryz.pinned (.plain (OpenSpec.upto searchLeastSpec)) searchLeastUptoCard

/-- THE SECOND FORM's CARD OF 'testbenchlaw18.SearchAll'. -/
def searchAllUptoCard : Claim7 := { stood := { row := searchAllUptoRow, standIns := [], harness := (true, "f423cc2d164d8f46b2267f38f1d42c6032256db4232801ecbba94ad87221db36"), looks := false }, kinds := [], alts := [], laidByText := true, laidKinds := [.data, .data, .data, .widerDeep], laidTests := true, laidLooks := .later }
def SearchAllUptoCardSaid : Prop := Claim7.holds Tryz.pinned (.plain (OpenSpec.upto searchAllSpec)) searchAllUptoCard

/-- THE SECOND FORM's CARD OF 'testbenchlaw18.SearchWalks'. -/
def searchWalksUptoCard : Claim7 := { stood := { row := searchWalksUptoRow, standIns := [], harness := (true, "f423cc2d164d8f46b2267f38f1d42c6032256db4232801ecbba94ad87221db36"), looks := false }, kinds := [], alts := [], laidByText := true, laidKinds := [.data, .data, .data, .widerDeep], laidTests := true, laidLooks := .later }
def SearchWalksUptoCardSaid : Prop := Claim7.holds Tryz.pinned (.plain (OpenSpec.upto searchWalksSpec)) searchWalksUptoCard

/-- THE SECOND FORM's CARD OF 'testbenchlaw22.SoftKeeps'. -/
def softKeepsUptoCard : Claim7 := { stood := { row := softKeepsUptoRow, standIns := [], harness := (true, "f423cc2d164d8f46b2267f38f1d42c6032256db4232801ecbba94ad87221db36"), looks := false }, kinds := [], alts := [], laidByText := true, laidKinds := [.data, .data, .data, .widerDeep], laidTests := true, laidLooks := .later }
def SoftKeepsUptoCardSaid : Prop := Claim7.holds Tryz.pinned (.plain (OpenSpec.upto softKeepsSpec)) softKeepsUptoCard

/-- THE SECOND FORM's CARD OF 'testbenchlaw22.SoftGreatest'. -/
def softGreatestUptoCard : Claim7 := { stood := { row := softGreatestUptoRow, standIns := [], harness := (true, "f423cc2d164d8f46b2267f38f1d42c6032256db4232801ecbba94ad87221db36"), looks := false }, kinds := [], alts := [], laidByText := true, laidKinds := [.data, .data, .data, .widerDeep], laidTests := true, laidLooks := .later }
def SoftGreatestUptoCardSaid : Prop := Claim7.holds Tryz.pinned (.plain (OpenSpec.upto softGreatestSpec)) softGreatestUptoCard

/-- THE SECOND FORM's CARD OF 'testbenchlaw22.SoftOrder'. -/
def softOrderUptoCard : Claim7 := { stood := { row := softOrderUptoRow, standIns := [], harness := (true, "f423cc2d164d8f46b2267f38f1d42c6032256db4232801ecbba94ad87221db36"), looks := false }, kinds := [], alts := [], laidByText := true, laidKinds := [.data, .data, .data, .widerDeep], laidTests := true, laidLooks := .later }
def SoftOrderUptoCardSaid : Prop := Claim7.holds Tryz.pinned (.plain (OpenSpec.upto softOrderSpec)) softOrderUptoCard

/-- THE SECOND FORM's CARD OF 'testbenchlaw22.SoftRules'. -/
def softRulesUptoCard : Claim7 := { stood := { row := softRulesUptoRow, standIns := [], harness := (true, "f423cc2d164d8f46b2267f38f1d42c6032256db4232801ecbba94ad87221db36"), looks := false }, kinds := [], alts := [], laidByText := true, laidKinds := [.data, .data, .data, .widerDeep], laidTests := true, laidLooks := .later }
def SoftRulesUptoCardSaid : Prop := Claim7.holds Tryz.pinned (.plain (OpenSpec.upto softRulesSpec)) softRulesUptoCard

/-- THE SECOND FORM's CARD OF 'testbenchlaw22.SoftSolves'. -/
def softSolvesUptoCard : Claim7 := { stood := { row := softSolvesUptoRow, standIns := [], harness := (true, "f423cc2d164d8f46b2267f38f1d42c6032256db4232801ecbba94ad87221db36"), looks := false }, kinds := [], alts := [], laidByText := true, laidKinds := [.data, .data, .data, .widerDeep], laidTests := true, laidLooks := .later }
def SoftSolvesUptoCardSaid : Prop := Claim7.holds Tryz.pinned (.plain (OpenSpec.upto softSolvesSpec)) softSolvesUptoCard
end Rows
end Go.Proofs.YtgdphjgedhadoaaGreatDoor
