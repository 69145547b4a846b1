/- Plain mathematics: rounded division, roots. No program in sight. -/
import Derived.WalkKit
import Derived.WalkLawsBesides
import Ieee.Arith
import Derived.Test.YtgcdgdnmcdffoaaGreatDoorBase
namespace Go.Proofs.YtgcdgdnmcdffoaaGreatDoor

/-- Go's quotient and remainder, put right to the quotient rounded down. -/
theorem tdiv_neg' {a b : Int} (hb : 0 < b) (h : a.tmod b < 0) : a.tdiv b - 1 = a / b := by
 have e := Int.mul_tdiv_add_tmod a b
 have h1 : a < 0 := by
  rcases Int.lt_or_le a 0 with h2 | h2
  ·exact h2
  ·have := Int.tmod_nonneg b h2; omega
 have h2 : -b < a.tmod b := by
  have := Int.neg_tmod a b
  have h3 : (-a).tmod b < b := Int.tmod_lt_of_pos _ hb
  omega
 symm
 rw [Int.ediv_eq_iff_of_pos hb]
 rw [Int.sub_mul, Int.mul_comm]
 omega
theorem tdiv_nonneg' {a b : Int} (hb : 0 < b) (h : 0 ≤ a.tmod b) : a.tdiv b = a / b := by
 have e := Int.mul_tdiv_add_tmod a b
 have h3 : a.tmod b < b := Int.tmod_lt_of_pos _ hb
 symm
 rw [Int.ediv_eq_iff_of_pos hb]
 rw [Int.mul_comm]
 omega
theorem tdiv_bd {a b c : Int} (_ : 0 < b) (h1 : -c ≤ a) (h2 : a ≤ c) : -c ≤ a.tdiv b ∧ a.tdiv b ≤ c := by
 have h := Int.natAbs_tdiv_le_natAbs a b
 omega

/-- The root of a natural number, rounded down. -/
def rtN : Nat → Nat
 | 0 => 0
 | n + 1 => if (rtN n + 1) * (rtN n + 1) ≤ n + 1 then rtN n + 1 else rtN n
theorem rtN_spec (n : Nat) : rtN n * rtN n ≤ n ∧ n < (rtN n + 1) * (rtN n + 1) := by
 induction n with
 | zero => simp [rtN]
 | succ n ih =>
  obtain ⟨h1, h2⟩ := ih
  rw [rtN]
  split
  ·refine ⟨by assumption, ?_⟩
   have : (rtN n + 1 + 1) * (rtN n + 1 + 1) = (rtN n + 1) * (rtN n + 1) + 2 * rtN n + 3 := by grind
   omega
  ·omega
/-- The root of a number of at least 0, rounded down. -/
def rt (n : Int) : Int := rtN n.toNat
theorem rt_nonneg (n : Int) : 0 ≤ rt n := by unfold rt; omega
theorem rt_spec {n : Int} (h : 0 ≤ n) : rt n * rt n ≤ n ∧ n < (rt n + 1) * (rt n + 1) := by
 obtain ⟨m, rfl⟩ := Int.eq_ofNat_of_zero_le h
 obtain ⟨h1, h2⟩ := rtN_spec m
 unfold rt
 rw [Int.toNat_natCast]
 constructor
 ·exact_mod_cast h1
 ·exact_mod_cast h2
theorem sq_le {a b : Int} (ha : 0 ≤ a) (h : a ≤ b) : a * a ≤ b * b := Int.mul_le_mul h h ha (by omega)
theorem sq_lt {a b : Int} (hb : 0 ≤ b) (h : a * a < b * b) : a < b := by
 rcases Int.lt_or_le a b with h1 | h1
 ·exact h1
 ·have := sq_le hb h1; omega
theorem rt_eq {n r : Int} (hr : 0 ≤ r) (h1 : r * r ≤ n) (h2 : n < (r + 1) * (r + 1)) : r = rt n := by
 have hn : 0 ≤ n := Int.le_trans (Int.mul_nonneg hr hr) h1
 obtain ⟨k1, k2⟩ := rt_spec hn
 have k0 := rt_nonneg n
 have a1 : r < rt n + 1 := sq_lt (by omega) (by omega)
 have a2 : rt n < r + 1 := sq_lt (by omega) (by omega)
 omega
theorem rt_le {n b : Int} (hn : 0 ≤ n) (hb : 0 ≤ b) (h : n < (b + 1) * (b + 1)) : rt n ≤ b := by
 have h1 := (rt_spec hn).1
 have : rt n < b + 1 := sq_lt (by omega) (by omega)
 omega
theorem rt_pos {n : Int} (hn : 1 ≤ n) : 1 ≤ rt n := by
 have h := (rt_spec (n := n) (by omega)).2
 have h0 := rt_nonneg n
 rcases Int.lt_or_le (rt n) 1 with h1 | h1
 ·have : rt n = 0 := by omega
  rw [this] at h; omega
 ·exact h1
end Go.Proofs.YtgcdgdnmcdffoaaGreatDoor
/- The root that math.Sqrt gives of a number below 2^63, made whole, is a number from 0 to 2^53. Plain facts on words of floats. -/
namespace Go.Proofs.YtgcdgdnmcdffoaaGreatDoor
open Ieee

theorem shl_lt {m k e : Nat} (h : m.log2 + 1 + k ≤ e) : m <<< k < 2 ^ e := by
 rw [Nat.shiftLeft_eq]
 have h1 : m < 2 ^ (m.log2 + 1) := Nat.lt_log2_self
 calc m * 2 ^ k < 2 ^ (m.log2 + 1) * 2 ^ k := Nat.mul_lt_mul_of_pos_right h1 (Nat.two_pow_pos k)
  _ = 2 ^ (m.log2 + 1 + k) := (Nat.pow_add 2 _ _).symm
  _ ≤ 2 ^ e := Nat.pow_le_pow_right (by omega) h

theorem cut_le (neg : Bool) (way : Toward) (n drop : Nat) : way.cut neg n drop ≤ n / (1 <<< min drop (n.log2 + 2)) + 1 := by
 unfold Toward.cut
 exact Nat.add_le_add_left (Bool.toNat_le _) _

theorem cut_even (mag : Nat) (place last : Int) (h : place + mag.log2 - 52 ≤ last) : Toward.even.cut false (mag <<< (place - last).toNat) (last - place).toNat ≤ 2 ^ 53 := by
 have h1 := cut_le false .even (mag <<< (place - last).toNat) (last - place).toNat
 by_cases hp : last ≤ place
 ·have h2 : mag <<< (place - last).toNat < 2 ^ 53 := shl_lt (by omega)
  have h3 := Nat.div_le_self (mag <<< (place - last).toNat) (1 <<< min (last - place).toNat ((mag <<< (place - last).toNat).log2 + 2))
  omega
 ·have e0 : (place - last).toNat = 0 := by omega
  rw [e0, Nat.shiftLeft_zero] at h1 ⊢
  rw [Nat.shiftLeft_eq, Nat.one_mul] at h1
  have h2 : mag / 2 ^ (min (last - place).toNat (mag.log2 + 2)) < 2 ^ 53 := by
   rw [Nat.div_lt_iff_lt_mul (Nat.two_pow_pos _), ← Nat.pow_add]
   exact Nat.lt_of_lt_of_le Nat.lt_log2_self (Nat.pow_le_pow_right (by omega) (by omega))
  omega

/-- What is read of a rung. -/
theorem read_rung (R q : Nat) (h : R ≤ q * double.binade) (hq : q ≤ 2000) : ∃ (m : Nat) (i : Int), double.read R = .number false m i ∧ m < 2 * double.binade ∧ i ≤ max (-1075 + (q : Int)) (-1074) := by
 have hB : 0 < double.binade := by decide
 have hir : double.infRung = 2047 * double.binade := by decide
 have hsw : double.signWeight = 2048 * double.binade := by decide
 have hlp : double.leastPlace = -1074 := by decide
 have h1 : R < 2047 * double.binade := Nat.lt_of_le_of_lt h (Nat.mul_lt_mul_of_pos_right (by omega) hB)
 have h2 : R < 2048 * double.binade := Nat.lt_of_lt_of_le h1 (Nat.mul_le_mul_right _ (by omega))
 unfold Format.read
 simp only [hir, hsw, hlp, Nat.div_eq_of_lt h2, Nat.mod_eq_of_lt h2]
 by_cases hb : R < double.binade
 ·rw [if_pos hb]
  exact ⟨R, -1074, rfl, by omega, by omega⟩
 ·rw [if_neg hb, if_pos h1]
  have hd : R / double.binade ≤ q := by
   rw [Nat.mul_comm] at h
   exact Nat.div_le_of_le_mul h
  have hmd := Nat.mod_lt R hB
  exact ⟨_, _, rfl, by omega, by omega⟩

/-- What is read of the nearest word. -/
theorem read_nearest (mag : Nat) (place : Int) (hp : place + mag.log2 ≤ 900) :
 ∃ (m : Nat) (i : Int), double.read (double.nearest false mag place) = .number false m i ∧ m < 2 * double.binade ∧ i ≤ max (place + mag.log2 - 52) (-1074) + 1 := by
 by_cases h0 : mag = 0
 ·subst h0
  refine ⟨0, -1074, ?_, by decide, by omega⟩
  simp only [Format.nearest, if_true]
  decide
 ·have hk := cut_even mag place (max (place + mag.log2 - 52) (-1074)) (by omega)
  have hlp : double.leastPlace = -1074 := by decide
  have hfb : double.fractionBits = 52 := by decide
  have e53 : (2 : Nat) ^ 53 = 2 * double.binade := by decide
  rw [e53] at hk
  unfold Format.nearest
  rw [if_neg h0, hfb, hlp]
  simp only [Int.cast_ofNat_Int]
  generalize Toward.even.cut false (mag <<< (place - max (place + ↑mag.log2 - 52) (-1074)).toNat) (max (place + ↑mag.log2 - 52) (-1074) - place).toNat = kept at hk ⊢
  generalize hl : max (place + (mag.log2 : Int) - 52) (-1074) = last at *
  have hl1 : -1074 ≤ last := by omega
  have hl2 : last ≤ 900 := by omega
  unfold Format.word
  rw [if_neg (by decide)]
  have hR : min ((last - -1074).toNat * double.binade + kept) double.infRung ≤ ((last - -1074).toNat + 2) * double.binade := by
   refine Nat.le_trans (Nat.min_le_left _ _) ?_
   rw [Nat.add_mul]
   exact Nat.add_le_add_left hk _
  obtain ⟨m, i, h1, h2, h3⟩ := read_rung _ _ hR (by omega)
  exact ⟨m, i, h1, h2, by omega⟩

theorem rootFrom_lt (n : Nat) : ∀ (todo root : Nat), Datum.rootFrom n todo root < root + 2 ^ todo
 | 0, root => by simp [Datum.rootFrom]
 | todo + 1, root => by
  unfold Datum.rootFrom
  have h := rootFrom_lt n todo (if (root + 1 <<< todo) * (root + 1 <<< todo) ≤ n then root + 1 <<< todo else root)
  have e : 1 <<< todo = 2 ^ todo := by rw [Nat.shiftLeft_eq, Nat.one_mul]
  have e2 : 2 ^ (todo + 1) = 2 * 2 ^ todo := by rw [Nat.pow_succ, Nat.mul_comm]
  simp only
  split at h <;> rename_i hc
  ·rw [if_pos hc]; rw [e] at h ⊢; omega
  ·rw [if_neg hc]; omega

theorem log2_shl {m k : Nat} (h : m ≠ 0) : (m <<< k).log2 = m.log2 + k := by
 induction k with
 | zero => simp
 | succ k ih =>
  rw [Nat.shiftLeft_succ, Nat.log2_two_mul (by rw [Nat.shiftLeft_eq]; exact Nat.mul_ne_zero h (Nat.ne_of_gt (Nat.two_pow_pos k))), ih]
  omega

/-- The root of a number below 2^63: its word, and that word made whole. -/
theorem sqrt_word (n : Nat) (hn : n < 9223372036854775808) : ∃ (y k : Nat), double.sqrt (double.nearest false n 0) = some y ∧ (double.read y).toInt .zero = some (k : Int) ∧ k < 9007199254740992 := by
 have hl : n.log2 ≤ 62 := by
  rcases Nat.eq_zero_or_pos n with h | h
  ·subst h; decide
  ·have := (Nat.log2_lt (n := n) (k := 63) (by omega)).2 (by simpa using hn)
   omega
 obtain ⟨m, i, hr, hm, hi⟩ := read_nearest n 0 (by omega)
 rw [show 2 * double.binade = 2 ^ 53 from by decide] at hm
 have hi' : i ≤ 11 := by omega
 have fin : ∀ (mag : Nat) (place : Int), place + mag.log2 ≤ 33 → ∃ k : Nat, (double.read (double.nearest false mag place)).toInt .zero = some (k : Int) ∧ k < 9007199254740992 := by
  intro mag place hp
  obtain ⟨m2, i2, hr2, hm2, hi2⟩ := read_nearest mag place (by omega)
  rw [hr2]
  have e0 : i2.toNat = 0 := by omega
  rw [show 2 * double.binade = 9007199254740992 from by decide] at hm2
  refine ⟨Toward.zero.cut false (m2 <<< i2.toNat) (-i2).toNat, ?_, ?_⟩
  ·simp [Datum.toInt, Datum.integral, signed]
  ·rw [e0, Nat.shiftLeft_zero]
   unfold Toward.cut
   simp only [Bool.toNat_false, Nat.add_zero]
   exact Nat.lt_of_le_of_lt (Nat.div_le_self _ _) hm2
 have hfb : double.fractionBits = 52 := by decide
 unfold Format.sqrt
 rw [hr, hfb]
 unfold Datum.root
 by_cases h0 : m = 0
 ·subst h0
  obtain ⟨k, h1, h2⟩ := fin 0 i (by rw [show Nat.log2 0 = 0 from by decide]; omega)
  exact ⟨double.nearest false 0 i, k, rfl, h1, h2⟩
 ·dsimp only
  rw [if_neg h0]
  simp only [Bool.false_eq_true, if_false, Option.map_some, Format.write]
  have hml : m.log2 ≤ 52 := by
   have := (Nat.log2_lt (n := m) (k := 53) h0).2 hm
   omega
  generalize hmore : 2 * (52 + 2) - m.log2 + ((i - ↑(2 * (52 + 2) - m.log2)) % 2).toNat = more
  have hmo : 108 - m.log2 ≤ more ∧ more ≤ 109 - m.log2 := by omega
  have hlog := log2_shl (k := more) h0
  generalize hw : Datum.rootFrom (m <<< more) ((m <<< more).log2 / 2 + 1) 0 = whole
  have hwl : whole < 2 ^ 55 := by
   have h1 := rootFrom_lt (m <<< more) ((m <<< more).log2 / 2 + 1) 0
   rw [hw, hlog] at h1
   have h2 : (2 : Nat) ^ ((m.log2 + more) / 2 + 1) ≤ 2 ^ 55 := Nat.pow_le_pow_right (by omega) (by omega)
   omega
  generalize hc : 2 * whole + (whole * whole != m <<< more).toNat = mag
  have hmag : mag < 2 ^ 56 := by
   have : (whole * whole != m <<< more).toNat ≤ 1 := Bool.toNat_le _
   omega
  have hml2 : mag.log2 ≤ 55 := by
   rcases Nat.eq_zero_or_pos mag with h | h
   ·rw [h]; decide
   ·have := (Nat.log2_lt (n := mag) (k := 56) (by omega)).2 hmag
    omega
  obtain ⟨k, h1, h2⟩ := fin mag ((i - ↑more) / 2 - 1) (by omega)
  exact ⟨_, k, rfl, h1, h2⟩
end Go.Proofs.YtgcdgdnmcdffoaaGreatDoor
/- Plain mathematics: distances, crossings, products in two words. No program in sight. -/
namespace Go.Proofs.YtgcdgdnmcdffoaaGreatDoor

/-- A number of at most 10^9. -/
def Sm (n : Int) : Prop := -1000000000 ≤ n ∧ n ≤ 1000000000
theorem sm_of {n : Int} (h1 : -1000000000 ≤ n) (h2 : n ≤ 1000000000) : Sm n := ⟨h1, h2⟩
theorem sm_mul {a b c d : Int} (ha : Sm a) (hb : Sm b) (hc : Sm c) (hd : Sm d) : Bd ((a - b) * (c - d)) := by
 obtain ⟨a1, a2⟩ := ha
 obtain ⟨b1, b2⟩ := hb
 obtain ⟨c1, c2⟩ := hc
 obtain ⟨d1, d2⟩ := hd
 exact bd_mul 2000000000 2000000000 4000000000000000000 (by omega) (by omega) (by omega) (by omega) (by decide) (by decide)
theorem pt_sm {x y : Int} (h : isPt x y = true) : Sm x ∧ Sm y := by
 obtain ⟨h1, h2, h3, h4⟩ := isPt_t h
 exact ⟨⟨by omega, by omega⟩, ⟨by omega, by omega⟩⟩
/-- The square of a distance. -/
def sq (px py qx qy : Int) : Int := (px - qx) * (px - qx) + (py - qy) * (py - qy)
/-- Twice the area of a triangle. -/
def crs (px py qx qy rx ry : Int) : Int := (qx - px) * (ry - py) - (qy - py) * (rx - px)
theorem sq_nonneg (px py qx qy : Int) : 0 ≤ sq px py qx qy := by
 unfold sq
 have h1 : 0 ≤ (px - qx) * (px - qx) := by rcases Int.le_total 0 (px - qx) with h | h; exact Int.mul_nonneg h h; exact Int.mul_nonneg_of_nonpos_of_nonpos h h
 have h2 : 0 ≤ (py - qy) * (py - qy) := by rcases Int.le_total 0 (py - qy) with h | h; exact Int.mul_nonneg h h; exact Int.mul_nonneg_of_nonpos_of_nonpos h h
 omega
theorem mul_self_nonneg' (a : Int) : 0 ≤ a * a := by
 rcases Int.le_total 0 a with h | h
 ·exact Int.mul_nonneg h h
 ·exact Int.mul_nonneg_of_nonpos_of_nonpos h h
/-- Squares of numbers within bounds. -/
theorem sqr_bd {a : Int} (b c : Int) (h1 : -b ≤ a) (h2 : a ≤ b) (hc : b * b = c) : 0 ≤ a * a ∧ a * a ≤ c := ⟨mul_self_nonneg' a, (mul_bd' b b c h1 h2 h1 h2 hc).2⟩
theorem sq_bd' {px py qx qy : Int} (b c : Int) (h1 : -b ≤ px - qx) (h2 : px - qx ≤ b) (h3 : -b ≤ py - qy) (h4 : py - qy ≤ b) (hc : b * b = c) : 0 ≤ sq px py qx qy ∧ sq px py qx qy ≤ 2 * c := by
 have := (sqr_bd b c h1 h2 hc).2
 have := (sqr_bd b c h3 h4 hc).2
 refine ⟨sq_nonneg _ _ _ _, ?_⟩
 unfold sq
 omega
theorem sq_pt {px py qx qy : Int} (hp : isPt px py = true) (hq : isPt qx qy = true) : 0 ≤ sq px py qx qy ∧ sq px py qx qy ≤ 8000000000000 := by
 obtain ⟨a1, a2, a3, a4⟩ := isPt_t hp
 obtain ⟨b1, b2, b3, b4⟩ := isPt_t hq
 exact sq_bd' 2000000 4000000000000 (by omega) (by omega) (by omega) (by omega) (by decide)
theorem hd_sq {x y : Int} (h : isHd x y = true) : 0 ≤ x * x ∧ x * x ≤ 4000000000000 ∧ 0 ≤ y * y ∧ y * y ≤ 4000000000000 ∧ 1 ≤ x * x + y * y := by
 obtain ⟨a1, a2, a3, a4, a5⟩ := isHd_t h
 have h1 := sqr_bd 2000000 4000000000000 a1 a2 (by decide)
 have h2 := sqr_bd 2000000 4000000000000 a3 a4 (by decide)
 refine ⟨h1.1, h1.2, h2.1, h2.2, ?_⟩
 rcases Classical.em (x = 0) with h | h
 ·have hy : y ≠ 0 := fun e => a5 ⟨h, e⟩
  have := Int.mul_pos_of_neg_of_neg (a := y) (b := y)
  have : 1 ≤ y * y := by
   rcases Int.lt_or_gt_of_ne hy with k | k
   ·have := Int.mul_pos_of_neg_of_neg k k; omega
   ·have := Int.mul_pos k k; omega
  omega
 ·have : 1 ≤ x * x := by
   rcases Int.lt_or_gt_of_ne h with k | k
   ·have := Int.mul_pos_of_neg_of_neg k k; omega
   ·have := Int.mul_pos k k; omega
  omega

/-- The two words of a product. -/
def hi64 (p : Int) : Int := p / 18446744073709551616
def lo64 (p : Int) : Int := p % 18446744073709551616
theorem cmp64 (p q : Int) : sgn (p - q) = if hi64 p < hi64 q ∨ (hi64 p = hi64 q ∧ lo64 p < lo64 q) then -1 else if hi64 p = hi64 q ∧ lo64 p = lo64 q then 0 else 1 := by
 unfold sgn hi64 lo64
 (repeat' split) <;> omega

/-- Products with parts of twenty digits. -/
theorem wide_eq (x y u v p q low mid : Int) (hx : x = u * 1048576 + v) (hy : y = p * 1048576 + q) (hl : low = v * q) (hm : mid = u * q + v * p + low / 1048576) (h0 : 0 ≤ low) :
 u * p + mid / 1048576 = x * y / 1099511627776 ∧ mid % 1048576 * 1048576 + low % 1048576 = x * y % 1099511627776 := by
 have e : x * y = u * p * 1099511627776 + (u * q + v * p) * 1048576 + low := by
  subst hx hy hl; grind
 have h1 : x * y = (u * p + mid / 1048576) * 1099511627776 + (mid % 1048576 * 1048576 + low % 1048576) := by
  rw [e]; generalize u * p = a at *; generalize u * q + v * p = b at *; omega
 generalize u * p + mid / 1048576 = H at *
 constructor
 ·omega
 ·omega

/-- The point on a line is on the segment exactly if it lies in the box. -/
theorem on_box (ux uy vx vy : Int) (h : ux * vy = uy * vx) : (ux * vx + uy * vy ≤ 0) ↔ (ux * vx ≤ 0 ∧ uy * vy ≤ 0) := by
 constructor
 ·intro h1
  have k : (ux * vx) * (uy * vy) = (ux * vy) * (ux * vy) := by
   have : (ux * vx) * (uy * vy) = (ux * vy) * (uy * vx) := by grind
   rw [this, ← h]
  have k2 := mul_self_nonneg' (ux * vy)
  rw [← k] at k2
  generalize ux * vx = a at *
  generalize uy * vy = b at *
  constructor
  ·rcases Int.lt_or_le 0 a with ha | ha
   ·have hb : b < 0 := by omega
    have := Int.mul_neg_of_pos_of_neg ha hb
    omega
   ·exact ha
  ·rcases Int.lt_or_le 0 b with hb | hb
   ·have ha : a < 0 := by omega
    have := Int.mul_neg_of_neg_of_pos ha hb
    omega
   ·exact hb
 ·intro h1; omega
theorem between_iff (p a b : Int) : ((p - a) * (p - b) ≤ 0) ↔ (min a b ≤ p ∧ p ≤ max a b) := by
 constructor
 ·intro h
  rcases Int.lt_or_le p (min a b) with h1 | h1
  ·have := Int.mul_pos_of_neg_of_neg (a := p - a) (b := p - b) (by omega) (by omega)
   omega
  ·rcases Int.lt_or_le (max a b) p with h2 | h2
   ·have := Int.mul_pos (a := p - a) (b := p - b) (by omega) (by omega)
    omega
   ·exact ⟨h1, h2⟩
 ·intro h
  rcases Int.le_total a b with h1 | h1
  ·have := Int.mul_nonneg (a := p - a) (b := b - p) (by omega) (by omega)
   have : (p - a) * (b - p) = -((p - a) * (p - b)) := by grind
   omega
  ·have := Int.mul_nonneg (a := a - p) (b := p - b) (by omega) (by omega)
   have : (a - p) * (p - b) = -((p - a) * (p - b)) := by grind
   omega

/-- How far p is along the segment. -/
def farI (ax ay bx bY px py : Int) : Int := (px - ax) * (bx - ax) + (py - ay) * (bY - ay)
/-- Whether a point of a segment is within a distance. -/
def wdB (ax ay bx bY px py d : Int) : Bool :=
 if farI ax ay bx bY px py ≤ 0 then decide (sq ax ay px py ≤ d * d)
 else if sq ax ay bx bY ≤ farI ax ay bx bY px py then decide (sq bx bY px py ≤ d * d)
 else decide (crs ax ay bx bY px py * crs ax ay bx bY px py ≤ d * d * sq ax ay bx bY)
theorem far_b (ax ay bx bY px py : Int) : sq bx bY px py = sq ax ay px py - 2 * farI ax ay bx bY px py + sq ax ay bx bY := by unfold sq farI; grind
theorem lagrange (ax ay bx bY px py : Int) : sq ax ay px py * sq ax ay bx bY = farI ax ay bx bY px py * farI ax ay bx bY px py + crs ax ay bx bY px py * crs ax ay bx bY px py := by unfold sq farI crs; grind
/-- The reference's way to it. -/
theorem wdB_spec (ax ay bx bY px py d : Int) (h0 : 1 ≤ sq ax ay bx bY) : wdB ax ay bx bY px py d =
 (decide (sq ax ay px py ≤ d * d) || decide (sq bx bY px py ≤ d * d) || (decide (0 < farI ax ay bx bY px py) && decide (farI ax ay bx bY px py < sq ax ay bx bY) && decide (crs ax ay bx bY px py * crs ax ay bx bY px py ≤ d * d * sq ax ay bx bY))) := by
 have hb := far_b ax ay bx bY px py
 have hl := lagrange ax ay bx bY px py
 have hf := mul_self_nonneg' (farI ax ay bx bY px py)
 unfold wdB
 generalize crs ax ay bx bY px py * crs ax ay bx bY px py = c at *
 generalize hF : farI ax ay bx bY px py = f at *
 generalize hS : sq ax ay bx bY = m at *
 generalize hA : sq ax ay px py = a at *
 generalize hB : sq bx bY px py = b at *
 generalize d * d = e at *
 by_cases h1 : f ≤ 0
 ·rw [if_pos h1]
  rw [Bool.eq_iff_iff]; simp; omega
 ·rw [if_neg h1]
  by_cases h2 : m ≤ f
  ·rw [if_pos h2]
   rw [Bool.eq_iff_iff]; simp; omega
  ·rw [if_neg h2]
   have ka : a ≤ e → c ≤ e * m := fun h => by
    have := Int.mul_le_mul_of_nonneg_right h (show 0 ≤ m by omega)
    generalize a * m = am at *; generalize e * m = em at *; omega
   have kb : b ≤ e → c ≤ e * m := fun h => by
    have h3 := Int.mul_le_mul_of_nonneg_right h (show 0 ≤ m by omega)
    have h4 : b * m = (f - m) * (f - m) + c := by
     have : b * m = a * m - 2 * (f * m) + m * m := by rw [hb]; grind
     rw [this, hl]; grind
    have := mul_self_nonneg' (f - m)
    generalize b * m = bm at *; generalize e * m = em at *; omega
   rw [Bool.eq_iff_iff]; simp
   generalize e * m = em at *
   omega
/-- |c| ≤ root(x) exactly if c * c ≤ x. -/
theorem abs_le_rt {c x : Int} (hx : 0 ≤ x) : (absI c ≤ rt x) ↔ c * c ≤ x := by
 obtain ⟨h1, h2⟩ := rt_spec hx
 have h0 := rt_nonneg x
 have ha : absI c * absI c = c * c := by unfold absI; split <;> grind
 have hn : 0 ≤ absI c := by unfold absI; split <;> omega
 rw [← ha]
 constructor
 ·intro h; have := sq_le hn h; omega
 ·intro h
  have : absI c < rt x + 1 := sq_lt (by omega) (by omega)
  omega
end Go.Proofs.YtgcdgdnmcdffoaaGreatDoor
