/-
  The functions' abstract code: all of it. No claim is proved here.
-/
import Derived.Test.YtgdlgdchdohdoaaGreatDoorQAcR1
import Derived.Test.YtgdlgdchdohdoaaGreatDoorQAcR2
namespace Go.Proofs.YtgdlgdchdohdoaaGreatDoor.Ab
end Go.Proofs.YtgdlgdchdohdoaaGreatDoor.Ab
