/-
  The law EvalTrans. No claim is proved here.
-/
import Derived.Test.YtdfdiglnpekcpabDoorWV12
namespace Go.Proofs.YtdfdiglnpekcpabDoor.Ab
open Go Go.RowKit
set_option linter.unusedSimpArgs false
set_option maxHeartbeats 4000000
set_option maxRecDepth 100000
variable {G : Nat → Option AV}
end Go.Proofs.YtdfdiglnpekcpabDoor.Ab
