/- Walks: quotients of products; ratios in lowest terms; the point of a segment at a place. -/
import Derived.Test.YthlnpcneicmblaaGreatDoorC
import Derived.Test.YthlnpcneicmblaaGreatDoorG
import Derived.Test.YthlnpcneicmblaaGreatDoorI
namespace Go.Proofs.YthlnpcneicmblaaGreatDoor
open Go.RowKit

theorem posI_bdG {a b g m : Int} (h1 : -1000000 ≤ a) (h2 : a ≤ 1000000) (h3 : -1000000 ≤ b) (h4 : b ≤ 1000000) (g0 : 0 ≤ g) (g1 : g ≤ m) (m0 : 0 < m) : -1000000 ≤ posI a b g m ∧ posI a b g m ≤ 1000000 := by
 unfold posI
 rcases Int.le_total a b with h | h
 ·have k1 : 0 ≤ (b - a) * g := Int.mul_nonneg (by omega) g0
  have k2 : (b - a) * g ≤ (b - a) * m := Int.mul_le_mul_of_nonneg_left g1 (by omega)
  have k3 : 0 ≤ (b - a) * g / m := Int.ediv_nonneg k1 (by omega)
  have k4 : (b - a) * g / m ≤ b - a := by
   have := Int.ediv_le_ediv m0 k2
   rwa [Int.mul_ediv_cancel _ (by omega)] at this
  omega
 ·have k1 : (a - b) * g ≤ (a - b) * m := Int.mul_le_mul_of_nonneg_left g1 (by omega)
  have k2 : 0 ≤ (a - b) * g := Int.mul_nonneg (by omega) g0
  have e : (b - a) * g = -((a - b) * g) := by grind
  have k3 : (b - a) * g / m ≤ 0 := by
   have := Int.ediv_le_ediv m0 (show (b - a) * g ≤ 0 by omega)
   rwa [Int.zero_ediv] at this
  have k4 : b - a ≤ (b - a) * g / m := by
   have k5 : (b - a) * m ≤ (b - a) * g := by have e2 : (b - a) * m = -((a - b) * m) := by grind
                                             omega
   have := Int.ediv_le_ediv m0 k5
   rwa [Int.mul_ediv_cancel _ (by omega)] at this
  omega
/-- The greatest common divisor. -/
def gdI (a b : Int) : Int := ((Nat.gcd a.toNat b.toNat : Nat) : Int)
theorem gdI_pos {a b : Int} (hb : 1 ≤ b) : 1 ≤ gdI a b := by
 unfold gdI
 have : 0 < Nat.gcd a.toNat b.toNat := Nat.gcd_pos_of_pos_right _ (by omega)
 omega
theorem gdI_dvd_r {a b : Int} (hb : 0 ≤ b) : gdI a b ∣ b := by
 have h : (((Nat.gcd a.toNat b.toNat : Nat)) : Int) ∣ ((b.toNat : Nat) : Int) := Int.natCast_dvd_natCast.2 (Nat.gcd_dvd_right _ _)
 rwa [Int.toNat_of_nonneg hb] at h
theorem gdI_dvd_l {a b : Int} (ha : 0 ≤ a) : gdI a b ∣ a := by
 have h : (((Nat.gcd a.toNat b.toNat : Nat)) : Int) ∣ ((a.toNat : Nat) : Int) := Int.natCast_dvd_natCast.2 (Nat.gcd_dvd_left _ _)
 rwa [Int.toNat_of_nonneg ha] at h
theorem gdI_nat (x y : Nat) : gdI x y = ((Nat.gcd x y : Nat) : Int) := by unfold gdI; rw [Int.toNat_natCast, Int.toNat_natCast]
/-- A ratio of 0 to 1 in lowest terms. -/
theorem pl_facts {a b : Int} (h0 : 0 ≤ a) (h1 : a ≤ b) (hb : 1 ≤ b) : 0 ≤ a / gdI a b ∧ a / gdI a b ≤ b / gdI a b ∧ 1 ≤ b / gdI a b ∧ b / gdI a b ≤ b := by
 have hg := gdI_pos (a := a) hb
 obtain ⟨q, hq⟩ := gdI_dvd_r (a := a) (b := b) (by omega)
 generalize gdI a b = g at *
 have hq1 : 1 ≤ q := by
  rcases Int.lt_or_le q 1 with h | h
  ·have := Int.mul_le_mul_of_nonneg_left (show q ≤ 0 by omega) (show 0 ≤ g by omega); rw [Int.mul_zero] at this; omega
  ·exact h
 have hbq : b / g = q := by rw [hq, Int.mul_ediv_cancel_left _ (by omega)]
 refine ⟨Int.ediv_nonneg h0 (by omega), Int.ediv_le_ediv (by omega) h1, by omega, ?_⟩
 rw [hbq, hq]
 have := Int.mul_le_mul_of_nonneg_right hg (show 0 ≤ q by omega); rw [Int.one_mul] at this; exact this

set_option maxRecDepth 100000 in
set_option maxHeartbeats 4000000 in
theorem spec_l02At_wide (a b g m : Int) (h1 : -1000000 ≤ a) (h2 : a ≤ 1000000) (h3 : -1000000 ≤ b) (h4 : b ≤ 1000000) (g1 : 0 ≤ g) (g2 : g ≤ m) (m1 : 1 ≤ m) (m2 : m ≤ 20000000000000) (w : World) :
 Calls Tryz.prog 96 #[.int .i64 a, .int .i64 b, .agg #[.int .i64 g, .int .i64 m]] w fun e w' => e = .returned (.int .i64 (posI a b g m)) ∧ Below w.heap.size w w' := by
 obtain ⟨p1, p2⟩ := mul_bd' (a := (b - a) / 1000) (b := g) 2001 20000000000000 40020000000000000 (by omega) (by omega) (by omega) (by omega) (by decide)
 obtain ⟨q1, q2⟩ := ediv_bd (c := 40020000000000000) m1 (by omega) p1 p2
 have r1 : 0 ≤ (b - a) / 1000 * g - (b - a) / 1000 * g / m * m := by have := Int.emod_add_mul_ediv ((b - a) / 1000 * g) m; have := Int.emod_nonneg ((b - a) / 1000 * g) (b := m) (by omega); rw [Int.mul_comm _ m]; omega
 have r2 : (b - a) / 1000 * g - (b - a) / 1000 * g / m * m ≤ 20000000000000 := by have := Int.emod_add_mul_ediv ((b - a) / 1000 * g) m; have := Int.emod_lt_of_pos ((b - a) / 1000 * g) (b := m) (by omega); rw [Int.mul_comm _ m]; omega
 have r3 : -90000000000000000 ≤ (b - a) / 1000 * g / m * m ∧ (b - a) / 1000 * g / m * m ≤ 90000000000000000 := by omega
 obtain ⟨s1, s2⟩ := mul_bd' (a := b - a - 1000 * ((b - a) / 1000)) (b := g) 1000 20000000000000 20000000000000000 (by omega) (by omega) (by omega) (by omega) (by decide)
 obtain ⟨e1, e2⟩ := ediv_bd (a := 1000 * ((b - a) / 1000 * g - (b - a) / 1000 * g / m * m) + (b - a - 1000 * ((b - a) / 1000)) * g) (c := 60000000000000000) m1 (by omega) (by omega) (by omega)
 have Hr := hide (posI_split a b g m (by omega))
 have f1 : -9000000000000000000 ≤ b - a := by omega
 have f2 : b - a ≤ 9000000000000000000 := by omega
 have f3 : -9000000000000000000 ≤ (b - a) / 1000 * g := by omega
 have f4 : (b - a) / 1000 * g ≤ 9000000000000000000 := by omega
 have f5 : -9000000000000000000 ≤ 1000 * ((b - a) / 1000 * g - (b - a) / 1000 * g / m * m) + (b - a - 1000 * ((b - a) / 1000)) * g := by omega
 have f6 : 1000 * ((b - a) / 1000 * g - (b - a) / 1000 * g / m * m) + (b - a - 1000 * ((b - a) / 1000)) * g ≤ 9000000000000000000 := by omega
 obtain ⟨r4, r5⟩ := r3
 have Hb := hide (posI_bdG h1 h2 h3 h4 g1 g2 (show 0 < m by omega))
 have b1 : -1000000000 ≤ a + 1000 * ((b - a) / 1000 * g / m) + (1000 * ((b - a) / 1000 * g - (b - a) / 1000 * g / m * m) + (b - a - 1000 * ((b - a) / 1000)) * g) / m := by have := Hb.out; have := Hr.out; omega
 have b2' : a + 1000 * ((b - a) / 1000 * g / m) + (1000 * ((b - a) / 1000 * g - (b - a) / 1000 * g / m * m) + (b - a - 1000 * ((b - a) / 1000)) * g) / m ≤ 1000000000 := by have := Hb.out; have := Hr.out; omega
 go_enter Tryz.func96, Tryz.ntmps96
 go_wp2_with (first | (go_at_call 36; (with_reducible refine (spec_l01Floor _ _ f1 f2 (by decide) _).mono ?_); rintro e w9 ⟨rfl, rfl⟩) | (go_at_call 36; (with_reducible refine (spec_l01Floor _ _ f3 f4 m1 _).mono ?_); rintro e w9 ⟨rfl, rfl⟩) | (go_at_call 36; (with_reducible refine (spec_l01Floor _ _ f5 f6 m1 _).mono ?_); rintro e w9 ⟨rfl, rfl⟩))
 go_ret
 exact ⟨ret_i Hr.out.symm, bwz⟩
end Go.Proofs.YthlnpcneicmblaaGreatDoor
