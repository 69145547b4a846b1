/- Walks: points that came in are copied and compared; the windward boat. -/
import Derived.Test.YtkhapajjbomknaaSl
import Derived.Test.YtkhapajjbomknaaBm
import Derived.Test.YtkhapajjbomknaaA
import Derived.Deep.RegionHeld3
import Derived.Deep.DeepCutAuto
namespace Go.Proofs.Ytkhapajjbomknaa
open Go.RowKit

/-- The copy of n elements of c cells: a row of the call's own. -/
def Copied2 (w : World) (n c : Nat) (V : Nat → Nat → Value) (e : Ending) (w' : World) : Prop :=
  ∃ g, e = .returned (.slice (some ⟨g, 0, none⟩) n n) ∧ RowAt w' (some ⟨g, 0, none⟩) n c V ∧ w.heap.size ≤ g ∧ g < w'.heap.size ∧ Below w.heap.size w w'
end Go.Proofs.Ytkhapajjbomknaa
