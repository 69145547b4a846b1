/- Walks: the position at a time. -/
import Derived.Test.YtgcdgdnmcdffoaaDoorTl
import Derived.Test.YtgcdgdnmcdffoaaDoorC
import Derived.Test.YtgcdgdnmcdffoaaDoorG
import Derived.Deep.DeepCutAuto
import Derived.Test.YtgcdgdnmcdffoaaDoorTd
namespace Go.Proofs.YtgcdgdnmcdffoaaDoor
open Go.RowKit

/-- The position at a time: a coordinate. -/
def posX (n : Nat) (T X : Nat → Int) (t : Int) : Int :=
 posI (X (legF T t (n - 2))) (X (legF T t (n - 2) + 1)) (t - T (legF T t (n - 2))) (T (legF T t (n - 2) + 1) - T (legF T t (n - 2)))
theorem dg_bd {d g : Int} (h1 : -2000000 ≤ d) (h2 : d ≤ 2000000) (g1 : 0 ≤ g) (g2 : g ≤ 1000000000) : -2000000000000000 ≤ d * g ∧ d * g ≤ 2000000000000000 := mul_bd' 2000000 1000000000 2000000000000000 h1 h2 (by omega) g2 (by decide)
end Go.Proofs.YtgcdgdnmcdffoaaDoor
/- Walks: the position of the reference; the hull at a time. -/
namespace Go.Proofs.YtgcdgdnmcdffoaaDoor
open Go.RowKit

end Go.Proofs.YtgcdgdnmcdffoaaDoor
