/-
  DERIVED. GIVEN WITH THE SEED: THE CARDS: each row of YtdfdiglnpekcpaaGreatDoorRows.lean that lists a variable, with what it lists TIED to the program's text (the seventh form; the later family's looks); each row that meets fmt, with fmt's text TOLD by the authors' own Lean function (tested against real Go, not proved from fmt's source: count such statements apart). THE CARD IS WHAT COUNTS. Prove the row's statement (the work); the ties are given (YtdfdiglnpekcpaaGreatDoorTie.lean); close each card by the builder's one call (the guide's Derived/Test/ToyasCard.lean, 'card_holds'). Laid BY PROGRAM, IN A SANDBOX (cutbox-door.mjs). By AI agents, Wed Nov 11 2026. No macro, syntax, notation, axiom, sorry.
-/
import Derived.Test.YtdfdiglnpekcpaaGreatDoorRows
import GoSem.ClaimSeven
namespace Go.Proofs.YtdfdiglnpekcpaaGreatDoor
namespace Rows

/-- THE TIED CARD OF 'proctorlaw13.CoreRight'. -/
def coreRightCard : Claim7 := { stood := { row := coreRightRow, standIns := [], harness := (true, "23367b6acc2892abc46baad41af5e11018c214a8cc97e580a745edee161f35a5"), looks := false }, kinds := [], alts := [], laidByText := true, laidKinds := [.widerDeep], laidTests := true, laidLooks := .later }
def CoreRightCardSaid : Prop := Claim7.holds Tryz.pinned (.plain (OpenSpec.ofChange coreRightSpec)) coreRightCard

/-- THE SECOND FORM's CARD OF 'proctorlaw13.CoreRight'. -/
def coreRightUptoCard : Claim7 := { stood := { row := coreRightUptoRow, standIns := [], harness := (true, "23367b6acc2892abc46baad41af5e11018c214a8cc97e580a745edee161f35a5"), looks := false }, kinds := [], alts := [], laidByText := true, laidKinds := [.widerDeep], laidTests := true, laidLooks := .later }
def CoreRightUptoCardSaid : Prop := Claim7.holds Tryz.pinned (.plain (OpenSpec.upto coreRightSpec)) coreRightUptoCard
end Rows
end Go.Proofs.YtdfdiglnpekcpaaGreatDoor
