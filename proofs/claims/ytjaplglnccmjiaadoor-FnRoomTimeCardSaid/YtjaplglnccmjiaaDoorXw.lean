/- Walks: the side of a line, the way across it, the place of a crossing, a quotient in steps of 1000; of both. -/
import Derived.Test.YtjaplglnccmjiaaDoorXp
import Derived.Test.YtjaplglnccmjiaaDoorGd
import Derived.Test.YtjaplglnccmjiaaDoorCu
namespace Go.Proofs.YtjaplglnccmjiaaDoor
open Go.RowKit

theorem sgn_pos (c : Int) : (0 < sgn c) ↔ 0 < c := by unfold sgn; (repeat' split) <;> omega
theorem sgn_rng (c : Int) : -1 ≤ sgn c ∧ sgn c ≤ 1 := by unfold sgn; (repeat' split) <;> omega
theorem sgn_m (a b : Int) : -1 ≤ sgn a * sgn b ∧ sgn a * sgn b ≤ 1 := by
  rcases (by have := sgn_rng a; omega : sgn a = -1 ∨ sgn a = 0 ∨ sgn a = 1) with h | h | h <;> rw [h] <;> have := sgn_rng b <;> omega
/-- The way by the sides. -/
theorem wayI_s (ax ay bx bY px py qx qy : Int) : wayI ax ay bx bY px py qx qy = (if (decide (0 < sgn (crs ax ay bx bY px py)) == decide (0 < sgn (crs ax ay bx bY qx qy))) || decide (0 < sgn (crs px py qx qy ax ay) * sgn (crs px py qx qy bx bY)) then 0 else if 0 < sgn (crs ax ay bx bY qx qy) then 1 else -1) := by
  unfold wayI
  simp only [sgn_pos]
end Go.Proofs.YtjaplglnccmjiaaDoor
