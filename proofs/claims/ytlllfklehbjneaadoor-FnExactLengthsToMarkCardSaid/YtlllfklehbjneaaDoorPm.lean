/- Plain mathematics: distances, crossings, products in two words. No program in sight. -/
import Derived.Test.YtlllfklehbjneaaDoorBase
import Derived.Test.YtlllfklehbjneaaDoorPl
namespace Go.Proofs.YtlllfklehbjneaaDoor

/-- A number of at most 10^9. -/
def Sm (n : Int) : Prop := -1000000000 ≤ n ∧ n ≤ 1000000000
theorem sm_of {n : Int} (h1 : -1000000000 ≤ n) (h2 : n ≤ 1000000000) : Sm n := ⟨h1, h2⟩
theorem sm_mul {a b c d : Int} (ha : Sm a) (hb : Sm b) (hc : Sm c) (hd : Sm d) : Bd ((a - b) * (c - d)) := by
  obtain ⟨a1, a2⟩ := ha
  obtain ⟨b1, b2⟩ := hb
  obtain ⟨c1, c2⟩ := hc
  obtain ⟨d1, d2⟩ := hd
  exact bd_mul 2000000000 2000000000 4000000000000000000 (by omega) (by omega) (by omega) (by omega) (by decide) (by decide)
theorem pt_sm {x y : Int} (h : isPt x y = true) : Sm x ∧ Sm y := by
  obtain ⟨h1, h2, h3, h4⟩ := isPt_t h
  exact ⟨⟨by omega, by omega⟩, ⟨by omega, by omega⟩⟩
/-- The square of a distance. -/
def sq (px py qx qy : Int) : Int := (px - qx) * (px - qx) + (py - qy) * (py - qy)
/-- Twice the area of a triangle. -/
def crs (px py qx qy rx ry : Int) : Int := (qx - px) * (ry - py) - (qy - py) * (rx - px)
theorem sq_nonneg (px py qx qy : Int) : 0 ≤ sq px py qx qy := by
  unfold sq
  have h1 : 0 ≤ (px - qx) * (px - qx) := by rcases Int.le_total 0 (px - qx) with h | h; exact Int.mul_nonneg h h; exact Int.mul_nonneg_of_nonpos_of_nonpos h h
  have h2 : 0 ≤ (py - qy) * (py - qy) := by rcases Int.le_total 0 (py - qy) with h | h; exact Int.mul_nonneg h h; exact Int.mul_nonneg_of_nonpos_of_nonpos h h
  omega
theorem mul_self_nonneg' (a : Int) : 0 ≤ a * a := by
  rcases Int.le_total 0 a with h | h
  · exact Int.mul_nonneg h h
  · exact Int.mul_nonneg_of_nonpos_of_nonpos h h
/-- Squares of numbers within bounds. -/
theorem sqr_bd {a : Int} (b c : Int) (h1 : -b ≤ a) (h2 : a ≤ b) (hc : b * b = c) : 0 ≤ a * a ∧ a * a ≤ c := ⟨mul_self_nonneg' a, (mul_bd' b b c h1 h2 h1 h2 hc).2⟩
theorem sq_bd' {px py qx qy : Int} (b c : Int) (h1 : -b ≤ px - qx) (h2 : px - qx ≤ b) (h3 : -b ≤ py - qy) (h4 : py - qy ≤ b) (hc : b * b = c) : 0 ≤ sq px py qx qy ∧ sq px py qx qy ≤ 2 * c := by
  have := (sqr_bd b c h1 h2 hc).2
  have := (sqr_bd b c h3 h4 hc).2
  refine ⟨sq_nonneg _ _ _ _, ?_⟩
  unfold sq
  omega
theorem sq_pt {px py qx qy : Int} (hp : isPt px py = true) (hq : isPt qx qy = true) : 0 ≤ sq px py qx qy ∧ sq px py qx qy ≤ 8000000000000 := by
  obtain ⟨a1, a2, a3, a4⟩ := isPt_t hp
  obtain ⟨b1, b2, b3, b4⟩ := isPt_t hq
  exact sq_bd' 2000000 4000000000000 (by omega) (by omega) (by omega) (by omega) (by decide)
theorem hd_sq {x y : Int} (h : isHd x y = true) : 0 ≤ x * x ∧ x * x ≤ 4000000000000 ∧ 0 ≤ y * y ∧ y * y ≤ 4000000000000 ∧ 1 ≤ x * x + y * y := by
  obtain ⟨a1, a2, a3, a4, a5⟩ := isHd_t h
  have h1 := sqr_bd 2000000 4000000000000 a1 a2 (by decide)
  have h2 := sqr_bd 2000000 4000000000000 a3 a4 (by decide)
  refine ⟨h1.1, h1.2, h2.1, h2.2, ?_⟩
  rcases Classical.em (x = 0) with h | h
  · have hy : y ≠ 0 := fun e => a5 ⟨h, e⟩
    have := Int.mul_pos_of_neg_of_neg (a := y) (b := y)
    have : 1 ≤ y * y := by
      rcases Int.lt_or_gt_of_ne hy with k | k
      · have := Int.mul_pos_of_neg_of_neg k k; omega
      · have := Int.mul_pos k k; omega
    omega
  · have : 1 ≤ x * x := by
      rcases Int.lt_or_gt_of_ne h with k | k
      · have := Int.mul_pos_of_neg_of_neg k k; omega
      · have := Int.mul_pos k k; omega
    omega

/-- The two words of a product. -/
def hi64 (p : Int) : Int := p / 18446744073709551616
def lo64 (p : Int) : Int := p % 18446744073709551616
theorem cmp64 (p q : Int) : sgn (p - q) = if hi64 p < hi64 q ∨ (hi64 p = hi64 q ∧ lo64 p < lo64 q) then -1 else if hi64 p = hi64 q ∧ lo64 p = lo64 q then 0 else 1 := by
  unfold sgn hi64 lo64
  (repeat' split) <;> omega

/-- Products with parts of twenty digits. -/
theorem wide_eq (x y u v p q low mid : Int) (hx : x = u * 1048576 + v) (hy : y = p * 1048576 + q) (hl : low = v * q) (hm : mid = u * q + v * p + low / 1048576) (h0 : 0 ≤ low) :
    u * p + mid / 1048576 = x * y / 1099511627776 ∧ mid % 1048576 * 1048576 + low % 1048576 = x * y % 1099511627776 := by
  have e : x * y = u * p * 1099511627776 + (u * q + v * p) * 1048576 + low := by
    subst hx hy hl; grind
  have h1 : x * y = (u * p + mid / 1048576) * 1099511627776 + (mid % 1048576 * 1048576 + low % 1048576) := by
    rw [e]; generalize u * p = a at *; generalize u * q + v * p = b at *; omega
  generalize u * p + mid / 1048576 = H at *
  constructor
  · omega
  · omega

/-- The point on a line is on the segment exactly if it lies in the box. -/
theorem on_box (ux uy vx vy : Int) (h : ux * vy = uy * vx) : (ux * vx + uy * vy ≤ 0) ↔ (ux * vx ≤ 0 ∧ uy * vy ≤ 0) := by
  constructor
  · intro h1
    have k : (ux * vx) * (uy * vy) = (ux * vy) * (ux * vy) := by
      have : (ux * vx) * (uy * vy) = (ux * vy) * (uy * vx) := by grind
      rw [this, ← h]
    have k2 := mul_self_nonneg' (ux * vy)
    rw [← k] at k2
    generalize ux * vx = a at *
    generalize uy * vy = b at *
    constructor
    · rcases Int.lt_or_le 0 a with ha | ha
      · have hb : b < 0 := by omega
        have := Int.mul_neg_of_pos_of_neg ha hb
        omega
      · exact ha
    · rcases Int.lt_or_le 0 b with hb | hb
      · have ha : a < 0 := by omega
        have := Int.mul_neg_of_neg_of_pos ha hb
        omega
      · exact hb
  · intro h1; omega
theorem between_iff (p a b : Int) : ((p - a) * (p - b) ≤ 0) ↔ (min a b ≤ p ∧ p ≤ max a b) := by
  constructor
  · intro h
    rcases Int.lt_or_le p (min a b) with h1 | h1
    · have := Int.mul_pos_of_neg_of_neg (a := p - a) (b := p - b) (by omega) (by omega)
      omega
    · rcases Int.lt_or_le (max a b) p with h2 | h2
      · have := Int.mul_pos (a := p - a) (b := p - b) (by omega) (by omega)
        omega
      · exact ⟨h1, h2⟩
  · intro h
    rcases Int.le_total a b with h1 | h1
    · have := Int.mul_nonneg (a := p - a) (b := b - p) (by omega) (by omega)
      have : (p - a) * (b - p) = -((p - a) * (p - b)) := by grind
      omega
    · have := Int.mul_nonneg (a := a - p) (b := p - b) (by omega) (by omega)
      have : (a - p) * (p - b) = -((p - a) * (p - b)) := by grind
      omega

/-- How far p is along the segment. -/
def farI (ax ay bx bY px py : Int) : Int := (px - ax) * (bx - ax) + (py - ay) * (bY - ay)
/-- Whether a point of a segment is within a distance. -/
def wdB (ax ay bx bY px py d : Int) : Bool :=
  if farI ax ay bx bY px py ≤ 0 then decide (sq ax ay px py ≤ d * d)
  else if sq ax ay bx bY ≤ farI ax ay bx bY px py then decide (sq bx bY px py ≤ d * d)
  else decide (crs ax ay bx bY px py * crs ax ay bx bY px py ≤ d * d * sq ax ay bx bY)
theorem far_b (ax ay bx bY px py : Int) : sq bx bY px py = sq ax ay px py - 2 * farI ax ay bx bY px py + sq ax ay bx bY := by unfold sq farI; grind
theorem lagrange (ax ay bx bY px py : Int) : sq ax ay px py * sq ax ay bx bY = farI ax ay bx bY px py * farI ax ay bx bY px py + crs ax ay bx bY px py * crs ax ay bx bY px py := by unfold sq farI crs; grind
/-- The reference's way to it. -/
theorem wdB_spec (ax ay bx bY px py d : Int) (h0 : 1 ≤ sq ax ay bx bY) : wdB ax ay bx bY px py d =
    (decide (sq ax ay px py ≤ d * d) || decide (sq bx bY px py ≤ d * d) || (decide (0 < farI ax ay bx bY px py) && decide (farI ax ay bx bY px py < sq ax ay bx bY) && decide (crs ax ay bx bY px py * crs ax ay bx bY px py ≤ d * d * sq ax ay bx bY))) := by
  have hb := far_b ax ay bx bY px py
  have hl := lagrange ax ay bx bY px py
  have hf := mul_self_nonneg' (farI ax ay bx bY px py)
  unfold wdB
  generalize crs ax ay bx bY px py * crs ax ay bx bY px py = c at *
  generalize hF : farI ax ay bx bY px py = f at *
  generalize hS : sq ax ay bx bY = m at *
  generalize hA : sq ax ay px py = a at *
  generalize hB : sq bx bY px py = b at *
  generalize d * d = e at *
  by_cases h1 : f ≤ 0
  · rw [if_pos h1]
    rw [Bool.eq_iff_iff]; simp; omega
  · rw [if_neg h1]
    by_cases h2 : m ≤ f
    · rw [if_pos h2]
      rw [Bool.eq_iff_iff]; simp; omega
    · rw [if_neg h2]
      have ka : a ≤ e → c ≤ e * m := fun h => by
        have := Int.mul_le_mul_of_nonneg_right h (show 0 ≤ m by omega)
        generalize a * m = am at *; generalize e * m = em at *; omega
      have kb : b ≤ e → c ≤ e * m := fun h => by
        have h3 := Int.mul_le_mul_of_nonneg_right h (show 0 ≤ m by omega)
        have h4 : b * m = (f - m) * (f - m) + c := by
          have : b * m = a * m - 2 * (f * m) + m * m := by rw [hb]; grind
          rw [this, hl]; grind
        have := mul_self_nonneg' (f - m)
        generalize b * m = bm at *; generalize e * m = em at *; omega
      rw [Bool.eq_iff_iff]; simp
      generalize e * m = em at *
      omega
/-- |c| ≤ root(x) exactly if c * c ≤ x. -/
theorem abs_le_rt {c x : Int} (hx : 0 ≤ x) : (absI c ≤ rt x) ↔ c * c ≤ x := by
  obtain ⟨h1, h2⟩ := rt_spec hx
  have h0 := rt_nonneg x
  have ha : absI c * absI c = c * c := by unfold absI; split <;> grind
  have hn : 0 ≤ absI c := by unfold absI; split <;> omega
  rw [← ha]
  constructor
  · intro h; have := sq_le hn h; omega
  · intro h
    have : absI c < rt x + 1 := sq_lt (by omega) (by omega)
    omega
end Go.Proofs.YtlllfklehbjneaaDoor
