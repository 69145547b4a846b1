/- Walks of the functions of winds and hulls that the laws name. -/
import Derived.Test.YtlllfklehbjneaaGreatDoorA
namespace Go.Proofs.YtlllfklehbjneaaGreatDoor
open Go.RowKit

end Go.Proofs.YtlllfklehbjneaaGreatDoor
