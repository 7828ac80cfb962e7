/-
  DERIVED. GIVEN WITH THE SEED: THE CARDS: each row of YtkgcnoghjibiaaaGreatDoorRows.lean that lists a variable, with what it lists TIED to the program's text (the seventh form; the later family's looks); each row that meets fmt, with fmt's text TOLD by the authors' own Lean function (tested against real Go, not proved from fmt's source: count such statements apart). THE CARD IS WHAT COUNTS. Prove the row's statement (the work); the ties are given (YtkgcnoghjibiaaaGreatDoorTie.lean); close each card by the builder's one call (the guide's Derived/Test/ToyasCard.lean, 'card_holds'). Laid BY PROGRAM, IN A SANDBOX (cutbox-door.mjs). By AI agents, Wed Nov 11 2026. No macro, syntax, notation, axiom, sorry.
-/
import Derived.Test.YtkgcnoghjibiaaaGreatDoorRows
import GoSem.ClaimSeven
namespace Go.Proofs.YtkgcnoghjibiaaaGreatDoor
namespace Rows

/-- THE TIED CARD OF 'proctorlaw41.TrimHolds'. -/
def trimHoldsCard : Claim7 := { stood := { row := trimHoldsRow, standIns := [], harness := (true, "edb684d5cdd10aa7a14e6a2732b1632bd11940de2c75576ddb84b2882b6e5b42"), looks := true }, kinds := [], alts := [], laidByText := true, laidKinds := [.handle, .widerDeep], laidTests := true, laidLooks := .later }
def TrimHoldsCardSaid : Prop := Claim7.holds Tryz.pinned (.plain (OpenSpec.ofChange trimHoldsSpec)) trimHoldsCard

/-- THE SECOND FORM's CARD OF 'proctorlaw41.TrimHolds'. -/
def trimHoldsUptoCard : Claim7 := { stood := { row := trimHoldsUptoRow, standIns := [], harness := (true, "edb684d5cdd10aa7a14e6a2732b1632bd11940de2c75576ddb84b2882b6e5b42"), looks := true }, kinds := [], alts := [], laidByText := true, laidKinds := [.handle, .widerDeep], laidTests := true, laidLooks := .later }
def TrimHoldsUptoCardSaid : Prop := Claim7.holds Tryz.pinned (.plain (OpenSpec.upto trimHoldsSpec)) trimHoldsUptoCard
end Rows
end Go.Proofs.YtkgcnoghjibiaaaGreatDoor
