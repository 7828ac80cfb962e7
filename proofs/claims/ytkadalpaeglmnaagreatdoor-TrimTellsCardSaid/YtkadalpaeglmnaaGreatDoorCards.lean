/-
  DERIVED. GIVEN WITH THE SEED: THE CARDS: each row of YtkadalpaeglmnaaGreatDoorRows.lean that lists a variable, with what it lists TIED to the program's text (the seventh form; the later family's looks); each row that meets fmt, with fmt's text TOLD by the authors' own Lean function (tested against real Go, not proved from fmt's source: count such statements apart). THE CARD IS WHAT COUNTS. Prove the row's statement (the work); the ties are given (YtkadalpaeglmnaaGreatDoorTie.lean); close each card by the builder's one call (the guide's Derived/Test/ToyasCard.lean, 'card_holds'). Laid BY PROGRAM, IN A SANDBOX (cutbox-door.mjs). By AI agents, Wed Nov 11 2026. No macro, syntax, notation, axiom, sorry.
-/
import Derived.Test.YtkadalpaeglmnaaGreatDoorRows
import GoSem.ClaimSeven
namespace Go.Proofs.YtkadalpaeglmnaaGreatDoor
namespace Rows

/-- THE TIED CARD OF 'proctorlaw41.TrimTells'. -/
def trimTellsCard : Claim7 := { stood := { row := trimTellsRow, standIns := [], harness := (true, "5af98bfd24aa1b2878c26f70b67508f683e2f9b32f77e4b4299e7ceac917ba3c"), looks := true }, kinds := [], alts := [], laidByText := true, laidKinds := [.handle, .widerDeep], laidTests := true, laidLooks := .later }
def TrimTellsCardSaid : Prop := Claim7.holds Tryz.pinned (.plain (OpenSpec.ofChange trimTellsSpec)) trimTellsCard

/-- THE SECOND FORM's CARD OF 'proctorlaw41.TrimTells'. -/
def trimTellsUptoCard : Claim7 := { stood := { row := trimTellsUptoRow, standIns := [], harness := (true, "5af98bfd24aa1b2878c26f70b67508f683e2f9b32f77e4b4299e7ceac917ba3c"), looks := true }, kinds := [], alts := [], laidByText := true, laidKinds := [.handle, .widerDeep], laidTests := true, laidLooks := .later }
def TrimTellsUptoCardSaid : Prop := Claim7.holds Tryz.pinned (.plain (OpenSpec.upto trimTellsSpec)) trimTellsUptoCard
end Rows
end Go.Proofs.YtkadalpaeglmnaaGreatDoor
