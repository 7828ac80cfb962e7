/-
  DERIVED. GIVEN WITH THE SEED: THE CARDS: each row of YtdfdiglnpekcpabGreatDoorRows.lean that lists a variable, with what it lists TIED to the program's text (the seventh form; the later family's looks); each row that meets fmt, with fmt's text TOLD by the authors' own Lean function (tested against real Go, not proved from fmt's source: count such statements apart). THE CARD IS WHAT COUNTS. Prove the row's statement (the work); the ties are given (YtdfdiglnpekcpabGreatDoorTie.lean); close each card by the builder's one call (the guide's Derived/Test/ToyasCard.lean, 'card_holds'). Laid BY PROGRAM, IN A SANDBOX (cutbox-door.mjs). By AI agents, Wed Nov 11 2026. No macro, syntax, notation, axiom, sorry.
-/
import Derived.Test.YtdfdiglnpekcpabGreatDoorRows
import GoSem.ClaimSeven
namespace Go.Proofs.YtdfdiglnpekcpabGreatDoor
namespace Rows

/-- THE TIED CARD OF 'proctorlaw28.SubsetSteps'. -/
def subsetStepsCard : Claim7 := { stood := { row := subsetStepsRow, standIns := [], harness := (true, "b033bb8225a4c841a3d3de8162b3c4aabc63b93f24995f7131f0e8d1887081ce"), looks := true }, kinds := [], alts := [], laidByText := true, laidKinds := [.widerDeep], laidTests := true, laidLooks := .later }
def SubsetStepsCardSaid : Prop := Claim7.holds Tryz.pinned (.plain (OpenSpec.ofChange subsetStepsSpec)) subsetStepsCard

/-- THE TIED CARD OF 'proctorlaw28.SubsetHits'. -/
def subsetHitsCard : Claim7 := { stood := { row := subsetHitsRow, standIns := [], harness := (true, "b033bb8225a4c841a3d3de8162b3c4aabc63b93f24995f7131f0e8d1887081ce"), looks := true }, kinds := [], alts := [], laidByText := true, laidKinds := [.widerDeep], laidTests := true, laidLooks := .later }
def SubsetHitsCardSaid : Prop := Claim7.holds Tryz.pinned (.plain (OpenSpec.ofChange subsetHitsSpec)) subsetHitsCard

/-- THE TIED CARD OF 'proctorlaw16.EvalTrans'. -/
def evalTransCard : Claim7 := { stood := { row := evalTransRow, standIns := [], harness := (true, "b033bb8225a4c841a3d3de8162b3c4aabc63b93f24995f7131f0e8d1887081ce"), looks := true }, kinds := [], alts := [], laidByText := true, laidKinds := [.handle], laidTests := true, laidLooks := .later }
def EvalTransCardSaid : Prop := Claim7.holds Tryz.pinned (.plain (OpenSpec.ofChange evalTransSpec)) evalTransCard

/-- THE TIED CARD OF 'proctorlaw13.CoreSymbols'. -/
def coreSymbolsCard : Claim7 := { stood := { row := coreSymbolsRow, standIns := [], harness := (true, "b033bb8225a4c841a3d3de8162b3c4aabc63b93f24995f7131f0e8d1887081ce"), looks := true }, kinds := [], alts := [], laidByText := true, laidKinds := [.data, .data, .data, .widerDeep, .widerDeep, .widerDeep], laidTests := true, laidLooks := .later }
def CoreSymbolsCardSaid : Prop := Claim7.holds Tryz.pinned (.plain (OpenSpec.ofChange coreSymbolsSpec)) coreSymbolsCard

/-- THE SECOND FORM's CARD OF 'proctorlaw28.SubsetSteps'. -/
def subsetStepsUptoCard : Claim7 := { stood := { row := subsetStepsUptoRow, standIns := [], harness := (true, "b033bb8225a4c841a3d3de8162b3c4aabc63b93f24995f7131f0e8d1887081ce"), looks := true }, kinds := [], alts := [], laidByText := true, laidKinds := [.widerDeep], laidTests := true, laidLooks := .later }
def SubsetStepsUptoCardSaid : Prop := Claim7.holds Tryz.pinned (.plain (OpenSpec.upto subsetStepsSpec)) subsetStepsUptoCard

/-- THE SECOND FORM's CARD OF 'proctorlaw28.SubsetHits'. -/
def subsetHitsUptoCard : Claim7 := { stood := { row := subsetHitsUptoRow, standIns := [], harness := (true, "b033bb8225a4c841a3d3de8162b3c4aabc63b93f24995f7131f0e8d1887081ce"), looks := true }, kinds := [], alts := [], laidByText := true, laidKinds := [.widerDeep], laidTests := true, laidLooks := .later }
def SubsetHitsUptoCardSaid : Prop := Claim7.holds Tryz.pinned (.plain (OpenSpec.upto subsetHitsSpec)) subsetHitsUptoCard

/-- THE SECOND FORM's CARD OF 'proctorlaw16.EvalTrans'. -/
def evalTransUptoCard : Claim7 := { stood := { row := evalTransUptoRow, standIns := [], harness := (true, "b033bb8225a4c841a3d3de8162b3c4aabc63b93f24995f7131f0e8d1887081ce"), looks := true }, kinds := [], alts := [], laidByText := true, laidKinds := [.handle], laidTests := true, laidLooks := .later }
def EvalTransUptoCardSaid : Prop := Claim7.holds Tryz.pinned (.plain (OpenSpec.upto evalTransSpec)) evalTransUptoCard

/-- THE SECOND FORM's CARD OF 'proctorlaw13.CoreSymbols'. -/
def coreSymbolsUptoCard : Claim7 := { stood := { row := coreSymbolsUptoRow, standIns := [], harness := (true, "b033bb8225a4c841a3d3de8162b3c4aabc63b93f24995f7131f0e8d1887081ce"), looks := true }, kinds := [], alts := [], laidByText := true, laidKinds := [.data, .data, .data, .widerDeep, .widerDeep, .widerDeep], laidTests := true, laidLooks := .later }
def CoreSymbolsUptoCardSaid : Prop := Claim7.holds Tryz.pinned (.plain (OpenSpec.upto coreSymbolsSpec)) coreSymbolsUptoCard
end Rows
end Go.Proofs.YtdfdiglnpekcpabGreatDoor
