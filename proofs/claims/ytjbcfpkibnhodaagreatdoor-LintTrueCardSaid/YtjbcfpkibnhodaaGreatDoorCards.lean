/-
  DERIVED. GIVEN WITH THE SEED: THE CARDS: each row of YtjbcfpkibnhodaaGreatDoorRows.lean that lists a variable, with what it lists TIED to the program's text (the seventh form; the later family's looks); each row that meets fmt, with fmt's text TOLD by the authors' own Lean function (tested against real Go, not proved from fmt's source: count such statements apart). THE CARD IS WHAT COUNTS. Prove the row's statement (the work); the ties are given (YtjbcfpkibnhodaaGreatDoorTie.lean); close each card by the builder's one call (the guide's Derived/Test/ToyasCard.lean, 'card_holds'). Laid BY PROGRAM, IN A SANDBOX (cutbox-door.mjs). By AI agents, Wed Nov 11 2026. No macro, syntax, notation, axiom, sorry.
-/
import Derived.Test.YtjbcfpkibnhodaaGreatDoorRows
import GoSem.ClaimSeven
namespace Go.Proofs.YtjbcfpkibnhodaaGreatDoor
namespace Rows

/-- THE TIED CARD OF 'proctorlaw18.ConfigSets'. -/
def configSetsCard : Claim7 := { stood := { row := configSetsRow, standIns := [], harness := (true, "83e2afa12538e0bb58d6f79085591273bba17282942e290ad6a42c8d0e1597a1"), looks := true }, kinds := [], alts := [], laidByText := true, laidKinds := [.data, .data, .data, .widerDeep, .widerDeep], laidTests := true, laidLooks := .later }
def ConfigSetsCardSaid : Prop := Claim7.holds Tryz.pinned (.plain (OpenSpec.ofChange configSetsSpec)) configSetsCard

/-- THE TIED CARD OF 'proctorlaw28.SubsetSteps'. -/
def subsetStepsCard : Claim7 := { stood := { row := subsetStepsRow, standIns := [], harness := (true, "83e2afa12538e0bb58d6f79085591273bba17282942e290ad6a42c8d0e1597a1"), looks := true }, kinds := [], alts := [], laidByText := true, laidKinds := [.widerDeep], laidTests := true, laidLooks := .later }
def SubsetStepsCardSaid : Prop := Claim7.holds Tryz.pinned (.plain (OpenSpec.ofChange subsetStepsSpec)) subsetStepsCard

/-- THE TIED CARD OF 'proctorlaw28.SubsetHits'. -/
def subsetHitsCard : Claim7 := { stood := { row := subsetHitsRow, standIns := [], harness := (true, "83e2afa12538e0bb58d6f79085591273bba17282942e290ad6a42c8d0e1597a1"), looks := true }, kinds := [], alts := [], laidByText := true, laidKinds := [.widerDeep], laidTests := true, laidLooks := .later }
def SubsetHitsCardSaid : Prop := Claim7.holds Tryz.pinned (.plain (OpenSpec.ofChange subsetHitsSpec)) subsetHitsCard

/-- THE TIED CARD OF 'proctorlaw39.LintAll'. -/
def lintAllCard : Claim7 := { stood := { row := lintAllRow, standIns := [], harness := (true, "83e2afa12538e0bb58d6f79085591273bba17282942e290ad6a42c8d0e1597a1"), looks := true }, kinds := [], alts := [], laidByText := true, laidKinds := [.data, .data, .data, .handle, .listed, .data, .widerDeep], laidTests := true, laidLooks := .later }
def LintAllCardSaid : Prop := Claim7.holds Tryz.pinned (.plain (OpenSpec.ofChange lintAllSpec)) lintAllCard

/-- THE TIED CARD OF 'proctorlaw39.LintTrue'. -/
def lintTrueCard : Claim7 := { stood := { row := lintTrueRow, standIns := [], harness := (true, "83e2afa12538e0bb58d6f79085591273bba17282942e290ad6a42c8d0e1597a1"), looks := true }, kinds := [], alts := [], laidByText := true, laidKinds := [.data, .data, .data, .handle, .listed, .data, .widerDeep], laidTests := true, laidLooks := .later }
def LintTrueCardSaid : Prop := Claim7.holds Tryz.pinned (.plain (OpenSpec.ofChange lintTrueSpec)) lintTrueCard

/-- THE SECOND FORM's CARD OF 'proctorlaw18.ConfigSets'. -/
def configSetsUptoCard : Claim7 := { stood := { row := configSetsUptoRow, standIns := [], harness := (true, "83e2afa12538e0bb58d6f79085591273bba17282942e290ad6a42c8d0e1597a1"), looks := true }, kinds := [], alts := [], laidByText := true, laidKinds := [.data, .data, .data, .widerDeep, .widerDeep], laidTests := true, laidLooks := .later }
def ConfigSetsUptoCardSaid : Prop := Claim7.holds Tryz.pinned (.plain (OpenSpec.upto configSetsSpec)) configSetsUptoCard

/-- THE SECOND FORM's CARD OF 'proctorlaw28.SubsetSteps'. -/
def subsetStepsUptoCard : Claim7 := { stood := { row := subsetStepsUptoRow, standIns := [], harness := (true, "83e2afa12538e0bb58d6f79085591273bba17282942e290ad6a42c8d0e1597a1"), looks := true }, kinds := [], alts := [], laidByText := true, laidKinds := [.widerDeep], laidTests := true, laidLooks := .later }
def SubsetStepsUptoCardSaid : Prop := Claim7.holds Tryz.pinned (.plain (OpenSpec.upto subsetStepsSpec)) subsetStepsUptoCard

/-- THE SECOND FORM's CARD OF 'proctorlaw28.SubsetHits'. -/
def subsetHitsUptoCard : Claim7 := { stood := { row := subsetHitsUptoRow, standIns := [], harness := (true, "83e2afa12538e0bb58d6f79085591273bba17282942e290ad6a42c8d0e1597a1"), looks := true }, kinds := [], alts := [], laidByText := true, laidKinds := [.widerDeep], laidTests := true, laidLooks := .later }
def SubsetHitsUptoCardSaid : Prop := Claim7.holds Tryz.pinned (.plain (OpenSpec.upto subsetHitsSpec)) subsetHitsUptoCard

/-- THE SECOND FORM's CARD OF 'proctorlaw39.LintAll'. -/
def lintAllUptoCard : Claim7 := { stood := { row := lintAllUptoRow, standIns := [], harness := (true, "83e2afa12538e0bb58d6f79085591273bba17282942e290ad6a42c8d0e1597a1"), looks := true }, kinds := [], alts := [], laidByText := true, laidKinds := [.data, .data, .data, .handle, .listed, .data, .widerDeep], laidTests := true, laidLooks := .later }
def LintAllUptoCardSaid : Prop := Claim7.holds Tryz.pinned (.plain (OpenSpec.upto lintAllSpec)) lintAllUptoCard

/-- THE SECOND FORM's CARD OF 'proctorlaw39.LintTrue'. -/
def lintTrueUptoCard : Claim7 := { stood := { row := lintTrueUptoRow, standIns := [], harness := (true, "83e2afa12538e0bb58d6f79085591273bba17282942e290ad6a42c8d0e1597a1"), looks := true }, kinds := [], alts := [], laidByText := true, laidKinds := [.data, .data, .data, .handle, .listed, .data, .widerDeep], laidTests := true, laidLooks := .later }
def LintTrueUptoCardSaid : Prop := Claim7.holds Tryz.pinned (.plain (OpenSpec.upto lintTrueSpec)) lintTrueUptoCard
end Rows
end Go.Proofs.YtjbcfpkibnhodaaGreatDoor
