/-
  DERIVED. GIVEN WITH THE SEED: THE CARDS: each row of YtkejmcgngblfnaaGreatDoorRows.lean that lists a variable, with what it lists TIED to the program's text (the seventh form; the later family's looks); each row that meets fmt, with fmt's text TOLD by the authors' own Lean function (tested against real Go, not proved from fmt's source: count such statements apart). THE CARD IS WHAT COUNTS. Prove the row's statement (the work); the ties are given (YtkejmcgngblfnaaGreatDoorTie.lean); close each card by the builder's one call (the guide's Derived/Test/ToyasCard.lean, 'card_holds'). Laid BY PROGRAM, IN A SANDBOX (cutbox-door.mjs). By AI agents, Wed Nov 11 2026. No macro, syntax, notation, axiom, sorry.
-/
import Derived.Test.YtkejmcgngblfnaaGreatDoorRows
import GoSem.ClaimSeven
namespace Go.Proofs.YtkejmcgngblfnaaGreatDoor
namespace Rows

/-- THE TIED CARD OF 'proctorlaw38.SavePuts'. -/
def savePutsCard : Claim7 := { stood := { row := savePutsRow, standIns := [], harness := (true, "bc98e199c8c4df022172bece466c7a9e264492abfc89e69410d2376eb36253de"), looks := true }, kinds := [], alts := [], laidByText := true, laidKinds := [.widerDeep, .sentinel], laidTests := true, laidLooks := .later }
def SavePutsCardSaid : Prop := Claim7.holds Tryz.pinned (.plain (OpenSpec.ofChange savePutsSpec)) savePutsCard

/-- THE TIED CARD OF 'proctorlaw38.SaveGets'. -/
def saveGetsCard : Claim7 := { stood := { row := saveGetsRow, standIns := [], harness := (true, "bc98e199c8c4df022172bece466c7a9e264492abfc89e69410d2376eb36253de"), looks := true }, kinds := [], alts := [], laidByText := true, laidKinds := [.widerDeep, .sentinel], laidTests := true, laidLooks := .later }
def SaveGetsCardSaid : Prop := Claim7.holds Tryz.pinned (.plain (OpenSpec.ofChange saveGetsSpec)) saveGetsCard

/-- THE TIED CARD OF 'proctorlaw38.SaveNone'. -/
def saveNoneCard : Claim7 := { stood := { row := saveNoneRow, standIns := [], harness := (true, "bc98e199c8c4df022172bece466c7a9e264492abfc89e69410d2376eb36253de"), looks := true }, kinds := [], alts := [], laidByText := true, laidKinds := [.widerDeep, .sentinel], laidTests := true, laidLooks := .later }
def SaveNoneCardSaid : Prop := Claim7.holds Tryz.pinned (.plain (OpenSpec.ofChange saveNoneSpec)) saveNoneCard

/-- THE TIED CARD OF 'proctorlaw38.SaveRestores'. -/
def saveRestoresCard : Claim7 := { stood := { row := saveRestoresRow, standIns := [], harness := (true, "bc98e199c8c4df022172bece466c7a9e264492abfc89e69410d2376eb36253de"), looks := true }, kinds := [], alts := [], laidByText := true, laidKinds := [.widerDeep, .sentinel], laidTests := true, laidLooks := .later }
def SaveRestoresCardSaid : Prop := Claim7.holds Tryz.pinned (.plain (OpenSpec.ofChange saveRestoresSpec)) saveRestoresCard

/-- THE SECOND FORM's CARD OF 'proctorlaw38.SavePuts'. -/
def savePutsUptoCard : Claim7 := { stood := { row := savePutsUptoRow, standIns := [], harness := (true, "bc98e199c8c4df022172bece466c7a9e264492abfc89e69410d2376eb36253de"), looks := true }, kinds := [], alts := [], laidByText := true, laidKinds := [.widerDeep, .sentinel], laidTests := true, laidLooks := .later }
def SavePutsUptoCardSaid : Prop := Claim7.holds Tryz.pinned (.plain (OpenSpec.upto savePutsSpec)) savePutsUptoCard

/-- THE SECOND FORM's CARD OF 'proctorlaw38.SaveGets'. -/
def saveGetsUptoCard : Claim7 := { stood := { row := saveGetsUptoRow, standIns := [], harness := (true, "bc98e199c8c4df022172bece466c7a9e264492abfc89e69410d2376eb36253de"), looks := true }, kinds := [], alts := [], laidByText := true, laidKinds := [.widerDeep, .sentinel], laidTests := true, laidLooks := .later }
def SaveGetsUptoCardSaid : Prop := Claim7.holds Tryz.pinned (.plain (OpenSpec.upto saveGetsSpec)) saveGetsUptoCard

/-- THE SECOND FORM's CARD OF 'proctorlaw38.SaveNone'. -/
def saveNoneUptoCard : Claim7 := { stood := { row := saveNoneUptoRow, standIns := [], harness := (true, "bc98e199c8c4df022172bece466c7a9e264492abfc89e69410d2376eb36253de"), looks := true }, kinds := [], alts := [], laidByText := true, laidKinds := [.widerDeep, .sentinel], laidTests := true, laidLooks := .later }
def SaveNoneUptoCardSaid : Prop := Claim7.holds Tryz.pinned (.plain (OpenSpec.upto saveNoneSpec)) saveNoneUptoCard

/-- THE SECOND FORM's CARD OF 'proctorlaw38.SaveRestores'. -/
def saveRestoresUptoCard : Claim7 := { stood := { row := saveRestoresUptoRow, standIns := [], harness := (true, "bc98e199c8c4df022172bece466c7a9e264492abfc89e69410d2376eb36253de"), looks := true }, kinds := [], alts := [], laidByText := true, laidKinds := [.widerDeep, .sentinel], laidTests := true, laidLooks := .later }
def SaveRestoresUptoCardSaid : Prop := Claim7.holds Tryz.pinned (.plain (OpenSpec.upto saveRestoresSpec)) saveRestoresUptoCard
end Rows
end Go.Proofs.YtkejmcgngblfnaaGreatDoor
