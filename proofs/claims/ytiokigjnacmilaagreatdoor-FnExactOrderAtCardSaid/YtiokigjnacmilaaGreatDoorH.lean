/- Walks: sterns, gaps, gains to windward. -/
import Derived.Test.YtiokigjnacmilaaGreatDoorG
namespace Go.Proofs.YtiokigjnacmilaaGreatDoor
open Go.RowKit

/-- A coordinate of the stern. -/
def stn (b h l n : Int) : Int := b - h * l / n
theorem rt_hd {x y : Int} (h : isHd x y = true) : 1 ≤ rt (x * x + y * y) ∧ rt (x * x + y * y) ≤ 3000000 := by
  obtain ⟨q1, q2, q3, q4, q5⟩ := hd_sq h
  exact ⟨rt_pos q5, rt_le (by omega) (by omega) (by omega)⟩
theorem hl_bd {x l : Int} (h1 : -2000000 ≤ x) (h2 : x ≤ 2000000) (h3 : 1 ≤ l) (h4 : l ≤ 1000) : -2000000000 ≤ x * l ∧ x * l ≤ 2000000000 := mul_bd' 2000000 1000 2000000000 h1 h2 (by omega) h4 (by decide)
/-- The gap behind a hull. -/
def gapI (ax ay hx hy l bx bY : Int) : Int := -ahd ax ay hx hy bx bY / rt (hx * hx + hy * hy) - l
theorem gap_bd {ax ay hx hy l bx bY ix iy m : Int} (h1 : isHu ax ay hx hy l = true) (h2 : isHu bx bY ix iy m = true) :
    -8000000000000 ≤ -ahd ax ay hx hy bx bY ∧ -ahd ax ay hx hy bx bY ≤ 8000000000000 ∧ -8000000000000 ≤ -ahd ax ay hx hy bx bY / rt (hx * hx + hy * hy) ∧ -ahd ax ay hx hy bx bY / rt (hx * hx + hy * hy) ≤ 8000000000000 := by
  obtain ⟨_, _, d1, d2⟩ := ahd_bd (isHu_t h1).1 (isHu_t h1).2.1 (isHu_t h2).1
  have hr := (rt_hd (isHu_t h1).2.1).1
  obtain ⟨q1, q2⟩ := ediv_bd (a := -ahd ax ay hx hy bx bY) (c := 8000000000000) hr (by omega) (by omega) (by omega)
  exact ⟨by omega, by omega, q1, q2⟩
end Go.Proofs.YtiokigjnacmilaaGreatDoor
