/- Plain words on segments that meet. -/
import Derived.Test.YtkhapajjbomknaaI
namespace Go.Proofs.Ytkhapajjbomknaa
open Go.RowKit

/-- A point on a segment. -/
def onB (ax ay bx bY px py : Int) : Bool := decide (crs ax ay bx bY px py = 0) && inB px (min ax bx) (max ax bx) && inB py (min ay bY) (max ay bY)
/-- Two segments cross properly. -/
def xB (ax ay bx bY cx cy dx dy : Int) : Bool :=
  decide (sgn (crs ax ay bx bY cx cy) * sgn (crs ax ay bx bY dx dy) < 0) && decide (sgn (crs cx cy dx dy ax ay) * sgn (crs cx cy dx dy bx bY) < 0)
def meetB (ax ay bx bY cx cy dx dy : Int) : Bool :=
  xB ax ay bx bY cx cy dx dy || onB ax ay bx bY cx cy || onB ax ay bx bY dx dy || onB cx cy dx dy ax ay || onB cx cy dx dy bx bY
theorem sgn_range (n : Int) : -1 ≤ sgn n ∧ sgn n ≤ 1 := by unfold sgn; (repeat' split) <;> omega
theorem sgn_zero (n : Int) : (sgn n = 0) ↔ n = 0 := by unfold sgn; (repeat' split) <;> omega
theorem sgn_mul_bd (a b : Int) : -1 ≤ sgn a * sgn b ∧ sgn a * sgn b ≤ 1 := mul_bd' 1 1 1 (sgn_range a).1 (sgn_range a).2 (sgn_range b).1 (sgn_range b).2 (by decide)
theorem onB_spec (ax ay bx bY px py : Int) : onB ax ay bx bY px py = (decide (crs ax ay bx bY px py = 0) && decide ((px - ax) * (px - bx) + (py - ay) * (py - bY) ≤ 0)) := by
  unfold onB inB
  rw [Bool.eq_iff_iff]
  simp only [Bool.and_eq_true, decide_eq_true_eq]
  have k : crs ax ay bx bY px py = 0 → (((px - ax) * (px - bx) + (py - ay) * (py - bY) ≤ 0) ↔ ((px - ax) * (px - bx) ≤ 0 ∧ (py - ay) * (py - bY) ≤ 0)) := fun h => by
    refine on_box (px - ax) (py - ay) (px - bx) (py - bY) ?_
    unfold crs at h
    have : (px - ax) * (py - bY) - (py - ay) * (px - bx) = (bx - ax) * (py - ay) - (bY - ay) * (px - ax) := by grind
    omega
  have k1 := between_iff px ax bx
  have k2 := between_iff py ay bY
  constructor
  · intro h
    exact ⟨h.1.1, (k h.1.1).2 ⟨k1.2 h.1.2, k2.2 h.2⟩⟩
  · intro h
    have := (k h.1).1 h.2
    exact ⟨⟨h.1, k1.1 this.1⟩, k2.1 this.2⟩

/-- A point in the box of a segment. -/
def onX (ax ay bx bY px py : Int) : Bool := inB px (min ax bx) (max ax bx) && inB py (min ay bY) (max ay bY)
theorem onB_sgn (ax ay bx bY px py : Int) : onB ax ay bx bY px py = (decide (sgn (crs ax ay bx bY px py) = 0) && onX ax ay bx bY px py) := by
  have e : decide (sgn (crs ax ay bx bY px py) = 0) = decide (crs ax ay bx bY px py = 0) := by simp only [sgn_zero]
  rw [e]; unfold onB onX; rw [Bool.and_assoc]
def meet3 (ax ay bx bY cx cy dx dy : Int) : Bool := xB ax ay bx bY cx cy dx dy || onB ax ay bx bY cx cy || onB ax ay bx bY dx dy
theorem mm (a b : Int) : (min a b = a ∧ max a b = b ∧ a ≤ b) ∨ (min a b = b ∧ max a b = a ∧ b ≤ a) := by
  rcases Int.le_total a b with h | h
  · exact .inl ⟨Int.min_eq_left h, Int.max_eq_right h, h⟩
  · exact .inr ⟨Int.min_eq_right h, Int.max_eq_left h, h⟩
end Go.Proofs.Ytkhapajjbomknaa
