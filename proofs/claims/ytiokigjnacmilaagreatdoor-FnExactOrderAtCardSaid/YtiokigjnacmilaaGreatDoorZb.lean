/- Walks: in the zone at a time; the distance to a mark, in lengths too; of both. -/
import Derived.Test.YtiokigjnacmilaaGreatDoorZa
import Derived.Test.YtiokigjnacmilaaGreatDoorBp
namespace Go.Proofs.YtiokigjnacmilaaGreatDoor
open Go.RowKit

def izOk (co tr : Bool) (n : Nat) (k : Int) (tin : Bool) : Bool := zoC co tr n k == 0 && tin
def izC (co tr : Bool) (n : Nat) (k : Int) (tin : Bool) : Int := if zoC co tr n k == 0 then sel tin 0 2 else zoC co tr n k
theorem iz_cases (co tr : Bool) (n : Nat) (k : Int) (tin : Bool) : (zoC co tr n k ≠ 0 ∧ izOk co tr n k tin = false ∧ izC co tr n k tin = zoC co tr n k) ∨ (zoC co tr n k = 0 ∧ tin = false ∧ izOk co tr n k tin = false ∧ izC co tr n k tin = 2) ∨ (zoC co tr n k = 0 ∧ tin = true ∧ izOk co tr n k tin = true ∧ izC co tr n k tin = 0) := by
  unfold izOk izC
  by_cases h : zoC co tr n k = 0
  · right
    rw [h]
    cases tin
    · left; exact ⟨rfl, rfl, rfl, rfl⟩
    · right; exact ⟨rfl, rfl, rfl, rfl⟩
  · left
    have e : (zoC co tr n k == 0) = false := beq_eq_false_iff_ne.2 h
    rw [e]
    exact ⟨h, rfl, rfl⟩
theorem zo_t {co tr : Bool} {n : Nat} {k : Int} (h : zoC co tr n k = 0) : co = true ∧ tr = true ∧ 0 ≤ k ∧ k ≤ (n : Int) - 1 := by
  rcases zoC_two co tr n k with h' | h'
  · exact h'.2
  · exact absurd h h'
/-- The square of the distance from a track at a time to mark k. -/
def dsq (n2 : Nat) (T U V : Nat → Int) (t : Int) (X Y : Nat → Int) (k : Int) : Int := sq (posX n2 T U t) (posX n2 T V t) (X k.toNat) (Y k.toNat)
def leOk (co tr : Bool) (n : Nat) (k : Int) (tin : Bool) (hull : Int) : Bool := izOk co tr n k tin && inB hull 1 1000
def leC (co tr : Bool) (n : Nat) (k : Int) (tin : Bool) (hull : Int) : Int := if zoC co tr n k == 0 then sel (inB hull 1 1000) (sel tin 0 2) 2 else zoC co tr n k
end Go.Proofs.YtiokigjnacmilaaGreatDoor
