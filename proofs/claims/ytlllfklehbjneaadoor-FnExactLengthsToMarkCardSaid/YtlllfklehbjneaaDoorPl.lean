/- Plain mathematics: rounded division, roots. No program in sight. -/
import Derived.WalkKit
namespace Go.Proofs.YtlllfklehbjneaaDoor

/-- Go's quotient and remainder, put right to the quotient rounded down. -/
theorem tdiv_neg' {a b : Int} (hb : 0 < b) (h : a.tmod b < 0) : a.tdiv b - 1 = a / b := by
  have e := Int.mul_tdiv_add_tmod a b
  have h1 : a < 0 := by
    rcases Int.lt_or_le a 0 with h2 | h2
    · exact h2
    · have := Int.tmod_nonneg b h2; omega
  have h2 : -b < a.tmod b := by
    have := Int.neg_tmod a b
    have h3 : (-a).tmod b < b := Int.tmod_lt_of_pos _ hb
    omega
  symm
  rw [Int.ediv_eq_iff_of_pos hb]
  rw [Int.sub_mul, Int.mul_comm]
  omega
theorem tdiv_nonneg' {a b : Int} (hb : 0 < b) (h : 0 ≤ a.tmod b) : a.tdiv b = a / b := by
  have e := Int.mul_tdiv_add_tmod a b
  have h3 : a.tmod b < b := Int.tmod_lt_of_pos _ hb
  symm
  rw [Int.ediv_eq_iff_of_pos hb]
  rw [Int.mul_comm]
  omega
theorem tdiv_bd {a b c : Int} (hb : 0 < b) (h1 : -c ≤ a) (h2 : a ≤ c) : -c ≤ a.tdiv b ∧ a.tdiv b ≤ c := by
  have h := Int.natAbs_tdiv_le_natAbs a b
  omega

/-- The root of a natural number, rounded down. -/
def rtN : Nat → Nat
  | 0 => 0
  | n + 1 => if (rtN n + 1) * (rtN n + 1) ≤ n + 1 then rtN n + 1 else rtN n
theorem rtN_spec (n : Nat) : rtN n * rtN n ≤ n ∧ n < (rtN n + 1) * (rtN n + 1) := by
  induction n with
  | zero => simp [rtN]
  | succ n ih =>
    obtain ⟨h1, h2⟩ := ih
    rw [rtN]
    split
    · refine ⟨by assumption, ?_⟩
      have : (rtN n + 1 + 1) * (rtN n + 1 + 1) = (rtN n + 1) * (rtN n + 1) + 2 * rtN n + 3 := by grind
      omega
    · omega
/-- The root of a number of at least 0, rounded down. -/
def rt (n : Int) : Int := rtN n.toNat
theorem rt_nonneg (n : Int) : 0 ≤ rt n := by unfold rt; omega
theorem rt_spec {n : Int} (h : 0 ≤ n) : rt n * rt n ≤ n ∧ n < (rt n + 1) * (rt n + 1) := by
  obtain ⟨m, rfl⟩ := Int.eq_ofNat_of_zero_le h
  obtain ⟨h1, h2⟩ := rtN_spec m
  unfold rt
  rw [Int.toNat_natCast]
  constructor
  · exact_mod_cast h1
  · exact_mod_cast h2
theorem sq_le {a b : Int} (ha : 0 ≤ a) (h : a ≤ b) : a * a ≤ b * b := Int.mul_le_mul h h ha (by omega)
theorem sq_lt {a b : Int} (hb : 0 ≤ b) (h : a * a < b * b) : a < b := by
  rcases Int.lt_or_le a b with h1 | h1
  · exact h1
  · have := sq_le hb h1; omega
theorem rt_eq {n r : Int} (hr : 0 ≤ r) (h1 : r * r ≤ n) (h2 : n < (r + 1) * (r + 1)) : r = rt n := by
  have hn : 0 ≤ n := Int.le_trans (Int.mul_nonneg hr hr) h1
  obtain ⟨k1, k2⟩ := rt_spec hn
  have k0 := rt_nonneg n
  have a1 : r < rt n + 1 := sq_lt (by omega) (by omega)
  have a2 : rt n < r + 1 := sq_lt (by omega) (by omega)
  omega
theorem rt_le {n b : Int} (hn : 0 ≤ n) (hb : 0 ≤ b) (h : n < (b + 1) * (b + 1)) : rt n ≤ b := by
  have h1 := (rt_spec hn).1
  have : rt n < b + 1 := sq_lt (by omega) (by omega)
  omega
theorem rt_pos {n : Int} (hn : 1 ≤ n) : 1 ≤ rt n := by
  have h := (rt_spec (n := n) (by omega)).2
  have h0 := rt_nonneg n
  rcases Int.lt_or_le (rt n) 1 with h1 | h1
  · have : rt n = 0 := by omega
    rw [this] at h; omega
  · exact h1
end Go.Proofs.YtlllfklehbjneaaDoor
