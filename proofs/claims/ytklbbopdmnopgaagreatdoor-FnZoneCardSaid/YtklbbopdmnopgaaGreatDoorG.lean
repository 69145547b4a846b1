/- Walks: hulls: clear astern, overlap, stern, gap, gain to windward. -/
import Derived.Test.YtklbbopdmnopgaaGreatDoorE
import Derived.Deep.QuietTactic
import Derived.BigQuiet
namespace Go.Proofs.YtklbbopdmnopgaaGreatDoor
open Go.RowKit

/-- How far the bow of b is ahead of that of a, times the length of the heading of a. -/
def ahd (ax ay hx hy bx bY : Int) : Int := (bx - ax) * hx + (bY - ay) * hy
/-- Clear astern. -/
def clr (hx hy l d : Int) : Bool := decide (d < 0 ∧ l * l * (hx * hx + hy * hy) < d * d)
def ovl (a b : Bool) : Int := sel a 1 0 + sel b 2 0
theorem ahd_bd {ax ay hx hy bx bY : Int} (h1 : isPt ax ay = true) (h2 : isHd hx hy = true) (h3 : isPt bx bY = true) : Bd ((bx - ax) * hx) ∧ Bd ((bY - ay) * hy) ∧ -8000000000000 ≤ ahd ax ay hx hy bx bY ∧ ahd ax ay hx hy bx bY ≤ 8000000000000 := by
 obtain ⟨a1, a2, a3, a4⟩ := isPt_t h1
 obtain ⟨b1, b2, b3, b4, _⟩ := isHd_t h2
 obtain ⟨c1, c2, c3, c4⟩ := isPt_t h3
 have k1 := mul_bd' (a := bx - ax) (b := hx) 2000000 2000000 4000000000000 (by omega) (by omega) b1 b2 (by decide)
 have k2 := mul_bd' (a := bY - ay) (b := hy) 2000000 2000000 4000000000000 (by omega) (by omega) b3 b4 (by decide)
 unfold ahd
 exact ⟨⟨by omega, by omega⟩, ⟨by omega, by omega⟩, by omega, by omega⟩
theorem sm_hd {x y : Int} (h : isHd x y = true) : Sm x ∧ Sm y := by
 obtain ⟨b1, b2, b3, b4, _⟩ := isHd_t h
 exact ⟨⟨by omega, by omega⟩, ⟨by omega, by omega⟩⟩
theorem ediv_bd {a b c : Int} (hb : 1 ≤ b) (hc : 0 ≤ c) (h1 : -c ≤ a) (h2 : a ≤ c) : -c ≤ a / b ∧ a / b ≤ c := by
 constructor
 ·rw [Int.le_ediv_iff_mul_le (by omega)]
  have := Int.mul_le_mul_of_nonneg_left hb hc
  have e : -c * b = -(c * b) := by grind
  rw [e]; omega
 ·have h3 : a / b < c + 1 := by
   rw [Int.ediv_lt_iff_lt_mul (by omega)]
   have := Int.mul_le_mul_of_nonneg_left hb (show 0 ≤ c + 1 by omega)
   omega
  omega

end Go.Proofs.YtklbbopdmnopgaaGreatDoor
/- Walks: sterns, gaps, gains to windward. -/
namespace Go.Proofs.YtklbbopdmnopgaaGreatDoor
open Go.RowKit

/-- A coordinate of the stern. -/
def stn (b h l n : Int) : Int := b - h * l / n
theorem rt_hd {x y : Int} (h : isHd x y = true) : 1 ≤ rt (x * x + y * y) ∧ rt (x * x + y * y) ≤ 3000000 := by
 obtain ⟨q1, q2, q3, q4, q5⟩ := hd_sq h
 exact ⟨rt_pos q5, rt_le (by omega) (by omega) (by omega)⟩
theorem hl_bd {x l : Int} (h1 : -2000000 ≤ x) (h2 : x ≤ 2000000) (h3 : 1 ≤ l) (h4 : l ≤ 1000) : -2000000000 ≤ x * l ∧ x * l ≤ 2000000000 := mul_bd' 2000000 1000 2000000000 h1 h2 (by omega) h4 (by decide)
/-- The gap behind a hull. -/
def gapI (ax ay hx hy l bx bY : Int) : Int := -ahd ax ay hx hy bx bY / rt (hx * hx + hy * hy) - l
theorem gap_bd {ax ay hx hy l bx bY ix iy m : Int} (h1 : isHu ax ay hx hy l = true) (h2 : isHu bx bY ix iy m = true) :
 -8000000000000 ≤ -ahd ax ay hx hy bx bY ∧ -ahd ax ay hx hy bx bY ≤ 8000000000000 ∧ -8000000000000 ≤ -ahd ax ay hx hy bx bY / rt (hx * hx + hy * hy) ∧ -ahd ax ay hx hy bx bY / rt (hx * hx + hy * hy) ≤ 8000000000000 := by
 obtain ⟨_, _, d1, d2⟩ := ahd_bd (isHu_t h1).1 (isHu_t h1).2.1 (isHu_t h2).1
 have hr := (rt_hd (isHu_t h1).2.1).1
 obtain ⟨q1, q2⟩ := ediv_bd (a := -ahd ax ay hx hy bx bY) (c := 8000000000000) hr (by omega) (by omega) (by omega)
 exact ⟨by omega, by omega, q1, q2⟩
end Go.Proofs.YtklbbopdmnopgaaGreatDoor
