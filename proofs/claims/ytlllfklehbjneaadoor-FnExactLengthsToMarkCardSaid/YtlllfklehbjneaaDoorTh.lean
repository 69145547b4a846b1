/- Walks: the heading at a time. -/
import Derived.Test.YtlllfklehbjneaaDoorTc
import Derived.Deep.DeepCutAuto
namespace Go.Proofs.YtlllfklehbjneaaDoor
open Go.RowKit

end Go.Proofs.YtlllfklehbjneaaDoor
