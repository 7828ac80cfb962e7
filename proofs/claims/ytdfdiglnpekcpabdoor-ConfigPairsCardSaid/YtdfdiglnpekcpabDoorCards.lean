/-
  DERIVED. GIVEN WITH THE SEED: THE CARDS: each row of YtdfdiglnpekcpabDoorRows.lean that lists a variable, with what it lists TIED to the program's text (the seventh form; the later family's looks); each row that meets fmt, with fmt's text TOLD by the authors' own Lean function (tested against real Go, not proved from fmt's source: count such statements apart). THE CARD IS WHAT COUNTS. Prove the row's statement (the work); the ties are given (YtdfdiglnpekcpabDoorTie.lean); close each card by the builder's one call (the guide's Derived/Test/ToyasCard.lean, 'card_holds'). Laid BY PROGRAM, IN A SANDBOX (cutbox-door.mjs). By AI agents, Wed Nov 11 2026. No macro, syntax, notation, axiom, sorry.
-/
import Derived.Test.YtdfdiglnpekcpabDoorRows
import GoSem.ClaimSeven
namespace Go.Proofs.YtdfdiglnpekcpabDoor
namespace Rows

/-- THE TIED CARD OF 'proctorlaw18.ConfigPairs'. -/
def configPairsCard : Claim7 := { stood := { row := configPairsRow, standIns := [], harness := (true, "6dd8116ef5a3ce95a93a23ce2f20314961dbc40f8e6017485668c58ffb04a8d8"), looks := true }, kinds := [], alts := [], laidByText := true, laidKinds := [.data, .data, .data, .widerDeep, .widerDeep], laidTests := true, laidLooks := .later }
def ConfigPairsCardSaid : Prop := Claim7.holds Tryd.pinned (.plain (OpenSpec.ofChange configPairsSpec)) configPairsCard

/-- THE TIED CARD OF 'proctorlaw16.EvalValues'. -/
def evalValuesCard : Claim7 := { stood := { row := evalValuesRow, standIns := [], harness := (true, "6dd8116ef5a3ce95a93a23ce2f20314961dbc40f8e6017485668c58ffb04a8d8"), looks := true }, kinds := [], alts := [], laidByText := true, laidKinds := [.handle], laidTests := true, laidLooks := .later }
def EvalValuesCardSaid : Prop := Claim7.holds Tryd.pinned (.plain (OpenSpec.ofChange evalValuesSpec)) evalValuesCard

/-- THE TIED CARD OF 'proctorlaw16.EvalFree'. -/
def evalFreeCard : Claim7 := { stood := { row := evalFreeRow, standIns := [], harness := (true, "6dd8116ef5a3ce95a93a23ce2f20314961dbc40f8e6017485668c58ffb04a8d8"), looks := true }, kinds := [], alts := [], laidByText := true, laidKinds := [.handle], laidTests := true, laidLooks := .later }
def EvalFreeCardSaid : Prop := Claim7.holds Tryd.pinned (.plain (OpenSpec.ofChange evalFreeSpec)) evalFreeCard

/-- THE SECOND FORM's CARD OF 'proctorlaw18.ConfigPairs'. -/
def configPairsUptoCard : Claim7 := { stood := { row := configPairsUptoRow, standIns := [], harness := (true, "6dd8116ef5a3ce95a93a23ce2f20314961dbc40f8e6017485668c58ffb04a8d8"), looks := true }, kinds := [], alts := [], laidByText := true, laidKinds := [.data, .data, .data, .widerDeep, .widerDeep], laidTests := true, laidLooks := .later }
def ConfigPairsUptoCardSaid : Prop := Claim7.holds Tryd.pinned (.plain (OpenSpec.upto configPairsSpec)) configPairsUptoCard

/-- THE SECOND FORM's CARD OF 'proctorlaw16.EvalValues'. -/
def evalValuesUptoCard : Claim7 := { stood := { row := evalValuesUptoRow, standIns := [], harness := (true, "6dd8116ef5a3ce95a93a23ce2f20314961dbc40f8e6017485668c58ffb04a8d8"), looks := true }, kinds := [], alts := [], laidByText := true, laidKinds := [.handle], laidTests := true, laidLooks := .later }
def EvalValuesUptoCardSaid : Prop := Claim7.holds Tryd.pinned (.plain (OpenSpec.upto evalValuesSpec)) evalValuesUptoCard

/-- THE SECOND FORM's CARD OF 'proctorlaw16.EvalFree'. -/
def evalFreeUptoCard : Claim7 := { stood := { row := evalFreeUptoRow, standIns := [], harness := (true, "6dd8116ef5a3ce95a93a23ce2f20314961dbc40f8e6017485668c58ffb04a8d8"), looks := true }, kinds := [], alts := [], laidByText := true, laidKinds := [.handle], laidTests := true, laidLooks := .later }
def EvalFreeUptoCardSaid : Prop := Claim7.holds Tryd.pinned (.plain (OpenSpec.upto evalFreeSpec)) evalFreeUptoCard
end Rows
end Go.Proofs.YtdfdiglnpekcpabDoor
