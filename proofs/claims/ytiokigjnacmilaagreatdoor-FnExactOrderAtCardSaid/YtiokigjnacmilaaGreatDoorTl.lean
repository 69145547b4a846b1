/- Walks: valid tracks, and legs. -/
import Derived.Test.YtiokigjnacmilaaGreatDoorBs
import Derived.Test.YtiokigjnacmilaaGreatDoorBase
import Derived.Test.YtiokigjnacmilaaGreatDoorA
import Derived.Deep.RegionHeld3
import Derived.Deep.DeepCutAuto
namespace Go.Proofs.YtiokigjnacmilaaGreatDoor
open Go.RowKit

end Go.Proofs.YtiokigjnacmilaaGreatDoor
