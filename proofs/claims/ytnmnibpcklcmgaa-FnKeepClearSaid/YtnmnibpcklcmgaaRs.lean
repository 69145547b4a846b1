/- The ruling on two boats, and on the same two in the other order. -/
import Derived.Test.YtnmnibpcklcmgaaN
namespace Go.Proofs.Ytnmnibpcklcmgaa
open Go.RowKit

theorem ovl_swp (bx bY hx hy l cx cy ix iy m : Int) : (ovlH bx bY hx hy l cx cy ix iy m = 0 ∧ ovlH cx cy ix iy m bx bY hx hy l = 0) ∨ (ovlH bx bY hx hy l cx cy ix iy m = 1 ∧ ovlH cx cy ix iy m bx bY hx hy l = 2) ∨ (ovlH bx bY hx hy l cx cy ix iy m = 2 ∧ ovlH cx cy ix iy m bx bY hx hy l = 1) ∨ (ovlH bx bY hx hy l cx cy ix iy m = 3 ∧ ovlH cx cy ix iy m bx bY hx hy l = 3) := by
  unfold ovlH
  generalize clr hx hy l (ahd bx bY hx hy cx cy) = p
  generalize clr ix iy m (ahd cx cy ix iy bx bY) = q
  cases p <;> cases q <;> simp [ovl, sel]
theorem ww_swp (wx wy ax ay bx bY : Int) : (wwI wx wy ax ay bx bY = 0 ∧ wwI wx wy bx bY ax ay = 0) ∨ (wwI wx wy ax ay bx bY = 1 ∧ wwI wx wy bx bY ax ay = 2) ∨ (wwI wx wy ax ay bx bY = 2 ∧ wwI wx wy bx bY ax ay = 1) := by
  unfold wwI
  generalize ax * wx + ay * wy = p
  generalize bx * wx + bY * wy = q
  (repeat' split) <;> first | omega | simp
/-- The ruling, out of what it is made of. -/
def rulP (t u : Bool) (x y o k : Int) : Int × Int :=
  if t != u then (if t then (1, 1) else (2, 1))
  else if t || x == 0 || y == 0 then (0, 5)
  else if x != y then (x, 2)
  else if o == 1 then (2, 3)
  else if o == 2 then (1, 3)
  else if o == 3 then (0, 5)
  else if 0 < k then (k, 4) else (0, 5)
theorem rulP_both (t u : Bool) (x y o o' k k' : Int) (hx : x = 0 ∨ x = 1 ∨ x = 2) (hy : y = 0 ∨ y = 1 ∨ y = 2) (ho : (o = 0 ∧ o' = 0) ∨ (o = 1 ∧ o' = 2) ∨ (o = 2 ∧ o' = 1) ∨ (o = 3 ∧ o' = 3)) (hk : (k = 0 ∧ k' = 0) ∨ (k = 1 ∧ k' = 2) ∨ (k = 2 ∧ k' = 1)) :
    (rulP u t y x o' k').2 = (rulP t u x y o k).2 ∧ (((rulP t u x y o k).1 = 0 ∧ (rulP u t y x o' k').1 = 0) ∨ ((rulP t u x y o k).1 = 1 ∧ (rulP u t y x o' k').1 = 2) ∨ ((rulP t u x y o k).1 = 2 ∧ (rulP u t y x o' k').1 = 1)) := by
  rcases hx with rfl | rfl | rfl <;> rcases hy with rfl | rfl | rfl <;> rcases ho with ⟨rfl, rfl⟩ | ⟨rfl, rfl⟩ | ⟨rfl, rfl⟩ | ⟨rfl, rfl⟩ <;> rcases hk with ⟨rfl, rfl⟩ | ⟨rfl, rfl⟩ | ⟨rfl, rfl⟩ <;> cases t <;> cases u <;> decide
theorem rul_both (wx wy bx bY hx hy l : Int) (t : Bool) (cx cy ix iy m : Int) (u : Bool) :
    ∃ r1 r2 x1, rulI wx wy bx bY hx hy l t cx cy ix iy m u = (r1, r2) ∧ rulI wx wy cx cy ix iy m u bx bY hx hy l t = (x1, r2) ∧ ((r1 = 0 ∧ x1 = 0) ∨ (r1 = 1 ∧ x1 = 2) ∨ (r1 = 2 ∧ x1 = 1)) := by
  have k := rulP_both t u _ _ _ _ _ _ (tackI_range wx wy hx hy) (tackI_range wx wy ix iy) (ovl_swp bx bY hx hy l cx cy ix iy m) (ww_swp wx wy bx bY cx cy)
  refine ⟨_, _, _, Prod.ext rfl rfl, Prod.ext rfl k.1, k.2⟩
end Go.Proofs.Ytnmnibpcklcmgaa
