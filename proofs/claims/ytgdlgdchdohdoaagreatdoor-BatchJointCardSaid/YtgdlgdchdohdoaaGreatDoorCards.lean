/-
  DERIVED. GIVEN WITH THE SEED: THE CARDS: each row of YtgdlgdchdohdoaaGreatDoorRows.lean that lists a variable, with what it lists TIED to the program's text (the seventh form; the later family's looks); each row that meets fmt, with fmt's text TOLD by the authors' own Lean function (tested against real Go, not proved from fmt's source: count such statements apart). THE CARD IS WHAT COUNTS. Prove the row's statement (the work); the ties are given (YtgdlgdchdohdoaaGreatDoorTie.lean); close each card by the builder's one call (the guide's Derived/Test/ToyasCard.lean, 'card_holds'). Laid BY PROGRAM, IN A SANDBOX (cutbox-door.mjs). By AI agents, Wed Nov 11 2026. No macro, syntax, notation, axiom, sorry.
-/
import Derived.Test.YtgdlgdchdohdoaaGreatDoorRows
import GoSem.ClaimSeven
namespace Go.Proofs.YtgdlgdchdohdoaaGreatDoor
namespace Rows

/-- THE TIED CARD OF 'proctorlaw44.BatchJoint'. -/
def batchJointCard : Claim7 := { stood := { row := batchJointRow, standIns := [], harness := (true, "ef74ad686b81ad32f437b64a6f6bff85015020202206880acdd1cf14ae7832c4"), looks := true }, kinds := [], alts := [], laidByText := true, laidKinds := [.data, .data, .data, .data, .handle, .sentinel, .sentinel, .widerDeep, .widerDeep, .widerDeep, .data, .pinned], laidTests := true, laidLooks := .later }
def BatchJointCardSaid : Prop := Claim7.holds Tryz.pinned (.plain (OpenSpec.ofChange batchJointSpec)) batchJointCard

/-- THE SECOND FORM's CARD OF 'proctorlaw44.BatchJoint'. -/
def batchJointUptoCard : Claim7 := { stood := { row := batchJointUptoRow, standIns := [], harness := (true, "ef74ad686b81ad32f437b64a6f6bff85015020202206880acdd1cf14ae7832c4"), looks := true }, kinds := [], alts := [], laidByText := true, laidKinds := [.data, .data, .data, .data, .handle, .sentinel, .sentinel, .widerDeep, .widerDeep, .widerDeep, .data, .pinned], laidTests := true, laidLooks := .later }
def BatchJointUptoCardSaid : Prop := Claim7.holds Tryz.pinned (.plain (OpenSpec.upto batchJointSpec)) batchJointUptoCard
end Rows
end Go.Proofs.YtgdlgdchdohdoaaGreatDoor
