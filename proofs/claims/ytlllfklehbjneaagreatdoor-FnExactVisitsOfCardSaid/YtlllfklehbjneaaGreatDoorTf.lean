/- Walks: the position of the reference; the hull at a time. -/
import Derived.Test.YtlllfklehbjneaaGreatDoorTe
import Derived.Test.YtlllfklehbjneaaGreatDoorTd
import Derived.Deep.DeepCutAuto
namespace Go.Proofs.YtlllfklehbjneaaGreatDoor
open Go.RowKit

end Go.Proofs.YtlllfklehbjneaaGreatDoor
