/- Walks of the functions of winds and hulls that the laws name. -/
import Derived.Test.YtlllfklehbjneaaDoorA
namespace Go.Proofs.YtlllfklehbjneaaDoor
open Go.RowKit

end Go.Proofs.YtlllfklehbjneaaDoor
