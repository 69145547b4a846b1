/- Walks: the code for a course, its mark and a track; in the zone at a time; the distance to the mark. -/
import Derived.Test.YtiokigjnacmilaaGreatDoorCz
import Derived.Test.YtiokigjnacmilaaGreatDoorTe
import Derived.Test.YtiokigjnacmilaaGreatDoorTs
import Derived.Test.YtiokigjnacmilaaGreatDoorTc
import Derived.Test.YtiokigjnacmilaaGreatDoorD
namespace Go.Proofs.YtiokigjnacmilaaGreatDoor
open Go.RowKit

/-- The code: 1 not valid, 4 no such mark. -/
def mkC (co : Bool) (n : Nat) (k : Int) : Int := sel co (sel (inB k 0 ((n : Int) - 1)) 0 4) 1
def zoC (co tr : Bool) (n : Nat) (k : Int) : Int := sel (co && tr) (sel (inB k 0 ((n : Int) - 1)) 0 4) 1
theorem zoC_two (co tr : Bool) (n : Nat) (k : Int) : (zoC co tr n k = 0 ∧ co = true ∧ tr = true ∧ 0 ≤ k ∧ k ≤ (n : Int) - 1) ∨ zoC co tr n k ≠ 0 := by
  unfold zoC
  rcases b2 (co && tr) with h | h
  · rw [h]; right; show (1 : Int) ≠ 0; decide
  · rcases b2 (inB k 0 ((n : Int) - 1)) with h2 | h2
    · rw [h, h2]; right; show (4 : Int) ≠ 0; decide
    · left
      simp only [Bool.and_eq_true] at h
      rw [h.1, h.2, h2]
      simp only [inB, decide_eq_true_eq] at h2
      exact ⟨rfl, rfl, rfl, h2.1, h2.2⟩
end Go.Proofs.YtiokigjnacmilaaGreatDoor
