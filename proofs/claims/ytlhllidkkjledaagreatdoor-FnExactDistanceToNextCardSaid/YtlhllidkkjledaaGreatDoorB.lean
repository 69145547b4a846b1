/- Walks of the functions of winds and hulls that the laws name. -/
import Derived.Test.YtlhllidkkjledaaGreatDoorA
namespace Go.Proofs.YtlhllidkkjledaaGreatDoor
open Go.RowKit

end Go.Proofs.YtlhllidkkjledaaGreatDoor
