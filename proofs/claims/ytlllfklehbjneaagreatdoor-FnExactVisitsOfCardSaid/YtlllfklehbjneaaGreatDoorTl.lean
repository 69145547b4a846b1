/- Walks: valid tracks, and legs. -/
import Derived.Test.YtlllfklehbjneaaGreatDoorBs
import Derived.Test.YtlllfklehbjneaaGreatDoorBase
import Derived.Test.YtlllfklehbjneaaGreatDoorA
import Derived.Deep.RegionHeld3
import Derived.Deep.DeepCutAuto
namespace Go.Proofs.YtlllfklehbjneaaGreatDoor
open Go.RowKit

end Go.Proofs.YtlllfklehbjneaaGreatDoor
