/- Walks: valid tracks, and legs. -/
import Derived.Test.YtgcdgdnmcdffoaaDoorBs
import Derived.Test.YtgcdgdnmcdffoaaDoorBase
import Derived.Test.YtgcdgdnmcdffoaaDoorA
import Derived.Deep.RegionHeld3
import Derived.Deep.DeepCutAuto
import Derived.Test.YtgcdgdnmcdffoaaDoorTb
import Derived.Test.YtgcdgdnmcdffoaaDoorTs
import Derived.Test.YtgcdgdnmcdffoaaDoorD
namespace Go.Proofs.YtgcdgdnmcdffoaaDoor
open Go.RowKit

end Go.Proofs.YtgcdgdnmcdffoaaDoor
/- Walks of the functions of winds and hulls that the laws name. -/
namespace Go.Proofs.YtgcdgdnmcdffoaaDoor
open Go.RowKit

end Go.Proofs.YtgcdgdnmcdffoaaDoor
/- Walks: when a track lasts; its ways and headings; the tack at a time. -/
namespace Go.Proofs.YtgcdgdnmcdffoaaDoor
open Go.RowKit

/-- The way of the leg at a time: the difference of a coordinate. -/
def wayX (n : Nat) (T X : Nat → Int) (t : Int) : Int := X (legF T t (n - 2) + 1) - X (legF T t (n - 2))
theorem legF_lt {n : Nat} (T : Nat → Int) (t : Int) (h : 2 ≤ n) : legF T t (n - 2) + 1 < n := by have := legF_le T t (n - 2); omega
theorem row_some {w : World} {so : Option Addr} {n : Nat} {T X Y : Nat → Int} (h : RowAt w so n 3 (v3 T X Y)) (hv : isTr n T X Y = true) : ∃ b o, so = some ⟨b, o, none⟩ := by
 obtain ⟨b, o, e, _⟩ := h 0 (by have := isTr_t hv; omega)
 exact ⟨b, o, e⟩
/-- The code of a track and a time. -/
def trC (n : Nat) (T X Y : Nat → Int) (t : Int) : Int := sel (isTr n T X Y) (sel (inB t (T 0) (T (n - 1))) 0 2) 1
end Go.Proofs.YtgcdgdnmcdffoaaDoor
