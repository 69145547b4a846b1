/- Walks: tracks that came in are copied, compared, measured. -/
import Derived.Test.YthlnpcneicmblaaGreatDoorBs
import Derived.Test.YthlnpcneicmblaaGreatDoorBase
import Derived.Test.YthlnpcneicmblaaGreatDoorA
import Derived.Deep.RegionHeld3
import Derived.Deep.DeepCutAuto
import Derived.Test.YthlnpcneicmblaaGreatDoorCo
import Derived.Test.YthlnpcneicmblaaGreatDoorC
namespace Go.Proofs.YthlnpcneicmblaaGreatDoor
open Go.RowKit

/-- The copy of n elements of c cells: a row of the call's own. -/
def Copied (w : World) (n c : Nat) (V : Nat → Nat → Value) (e : Ending) (w' : World) : Prop :=
 ∃ g, e = .returned (.slice (some ⟨g, 0, none⟩) n n) ∧ RowAt w' (some ⟨g, 0, none⟩) n c V ∧ Mine w' g (n * c) ∧ w.heap.size ≤ g ∧ g < w'.heap.size ∧ Below w.heap.size w w'
/-- The same, as the one field of a struct. -/
def Copied1 (w : World) (n c : Nat) (V : Nat → Nat → Value) (e : Ending) (w' : World) : Prop :=
 ∃ g, e = .returned (.agg #[.slice (some ⟨g, 0, none⟩) n n]) ∧ RowAt w' (some ⟨g, 0, none⟩) n c V ∧ Mine w' g (n * c) ∧ w.heap.size ≤ g ∧ g < w'.heap.size ∧ Below w.heap.size w w'
end Go.Proofs.YthlnpcneicmblaaGreatDoor
/- Walks: courses that came in are copied, compared, measured. -/
namespace Go.Proofs.YthlnpcneicmblaaGreatDoor
open Go.RowKit
end Go.Proofs.YthlnpcneicmblaaGreatDoor
/- Walks: a course that came in is copied. -/
namespace Go.Proofs.YthlnpcneicmblaaGreatDoor
open Go.RowKit
end Go.Proofs.YthlnpcneicmblaaGreatDoor
