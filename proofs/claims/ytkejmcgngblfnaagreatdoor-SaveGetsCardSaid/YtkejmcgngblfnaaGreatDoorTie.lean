/-
  DERIVED. GIVEN WITH THE SEED: THE PROGRAM's TIES (one call each: nine closed facts by the kernel) AND EACH ROW's TIE, after the 31st guide's Derived/Test/Toyas{Tie, Card}.lean. No idea stands in it: it is a product of the set-up. Laid BY PROGRAM, IN A SANDBOX (cutbox-door.mjs). By AI agents, Wed Nov 11 2026. No macro, syntax, notation, axiom, sorry.
-/
import Derived.Test.YtkejmcgngblfnaaGreatDoorRows
import Derived.LaidByTextLater
import Derived.SevenTiedAt
import Derived.LaidSub
import Derived.LaidOnce
namespace Go.Proofs.YtkejmcgngblfnaaGreatDoor
open Go
set_option maxRecDepth 100000
theorem seatTie1 : Tryz.prog.laidByTextLater [("proctor/schema.words", Rows.laid_proctor_schema_words), ("proctor/save.errShort", Rows.laid_proctor_save_errShort)] [.widerDeep, .sentinel] true :=
  Program.laidByTextLater_by_one 33 8 23 (by kernel_rfl) (by kernel_rfl) (by kernel_rfl) (by kernel_rfl) (by kernel_rfl) (by kernel_rfl) (fun _ _ => by kernel_rfl)
theorem noOwnUnsafe : Tryz.pinned.checked.prog.headLifts.contains "ownunsafe" = false := by kernel_rfl
theorem tie : Tryz.prog.laidByTextLater [("proctor/schema.words", Rows.laid_proctor_schema_words), ("proctor/save.errShort", Rows.laid_proctor_save_errShort)] [.widerDeep, .sentinel] true :=
  Program.laidByTextLater.sub seatTie1 ["proctor/schema.words", "proctor/save.errShort"] (by kernel_rfl) (by kernel_rfl)
theorem savePuts_row_tie : Rows.savePutsRow.laidByTextAt .later Tryz.pinned [.widerDeep, .sentinel] true :=
  OpenClaim.laidByTextAt_later rfl rfl tie noOwnUnsafe
theorem saveGets_row_tie : Rows.saveGetsRow.laidByTextAt .later Tryz.pinned [.widerDeep, .sentinel] true :=
  OpenClaim.laidByTextAt_later rfl rfl tie noOwnUnsafe
theorem saveNone_row_tie : Rows.saveNoneRow.laidByTextAt .later Tryz.pinned [.widerDeep, .sentinel] true :=
  OpenClaim.laidByTextAt_later rfl rfl tie noOwnUnsafe
theorem saveRestores_row_tie : Rows.saveRestoresRow.laidByTextAt .later Tryz.pinned [.widerDeep, .sentinel] true :=
  OpenClaim.laidByTextAt_later rfl rfl tie noOwnUnsafe
theorem savePutsUpto_row_tie : Rows.savePutsUptoRow.laidByTextAt .later Tryz.pinned [.widerDeep, .sentinel] true :=
  OpenClaim.laidByTextAt_later rfl rfl tie noOwnUnsafe
theorem saveGetsUpto_row_tie : Rows.saveGetsUptoRow.laidByTextAt .later Tryz.pinned [.widerDeep, .sentinel] true :=
  OpenClaim.laidByTextAt_later rfl rfl tie noOwnUnsafe
theorem saveNoneUpto_row_tie : Rows.saveNoneUptoRow.laidByTextAt .later Tryz.pinned [.widerDeep, .sentinel] true :=
  OpenClaim.laidByTextAt_later rfl rfl tie noOwnUnsafe
theorem saveRestoresUpto_row_tie : Rows.saveRestoresUptoRow.laidByTextAt .later Tryz.pinned [.widerDeep, .sentinel] true :=
  OpenClaim.laidByTextAt_later rfl rfl tie noOwnUnsafe
end Go.Proofs.YtkejmcgngblfnaaGreatDoor
