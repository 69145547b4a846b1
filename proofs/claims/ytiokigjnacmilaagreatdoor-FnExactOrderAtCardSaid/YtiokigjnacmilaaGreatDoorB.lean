/- Walks of the functions of winds and hulls that the laws name. -/
import Derived.Test.YtiokigjnacmilaaGreatDoorA
namespace Go.Proofs.YtiokigjnacmilaaGreatDoor
open Go.RowKit

end Go.Proofs.YtiokigjnacmilaaGreatDoor
