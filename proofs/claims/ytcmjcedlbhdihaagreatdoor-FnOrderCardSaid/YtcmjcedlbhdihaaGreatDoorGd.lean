/- Walks: quotients of products; ratios in lowest terms; the point of a segment at a place. -/
import Derived.Test.YtcmjcedlbhdihaaGreatDoorE
import Derived.Test.YtcmjcedlbhdihaaGreatDoorG
import Derived.Test.YtcmjcedlbhdihaaGreatDoorI
namespace Go.Proofs.YtcmjcedlbhdihaaGreatDoor
open Go.RowKit

theorem posI_bdG {a b g m : Int} (h1 : -1000000 ≤ a) (h2 : a ≤ 1000000) (h3 : -1000000 ≤ b) (h4 : b ≤ 1000000) (g0 : 0 ≤ g) (g1 : g ≤ m) (m0 : 0 < m) : -1000000 ≤ posI a b g m ∧ posI a b g m ≤ 1000000 := by
 unfold posI
 rcases Int.le_total a b with h | h
 ·have k1 : 0 ≤ (b - a) * g := Int.mul_nonneg (by omega) g0
  have k2 : (b - a) * g ≤ (b - a) * m := Int.mul_le_mul_of_nonneg_left g1 (by omega)
  have k3 : 0 ≤ (b - a) * g / m := Int.ediv_nonneg k1 (by omega)
  have k4 : (b - a) * g / m ≤ b - a := by
   have := Int.ediv_le_ediv m0 k2
   rwa [Int.mul_ediv_cancel _ (by omega)] at this
  omega
 ·have k1 : (a - b) * g ≤ (a - b) * m := Int.mul_le_mul_of_nonneg_left g1 (by omega)
  have k2 : 0 ≤ (a - b) * g := Int.mul_nonneg (by omega) g0
  have e : (b - a) * g = -((a - b) * g) := by grind
  have k3 : (b - a) * g / m ≤ 0 := by
   have := Int.ediv_le_ediv m0 (show (b - a) * g ≤ 0 by omega)
   rwa [Int.zero_ediv] at this
  have k4 : b - a ≤ (b - a) * g / m := by
   have k5 : (b - a) * m ≤ (b - a) * g := by have e2 : (b - a) * m = -((a - b) * m) := by grind
                                             omega
   have := Int.ediv_le_ediv m0 k5
   rwa [Int.mul_ediv_cancel _ (by omega)] at this
  omega
/-- The greatest common divisor. -/
def gdI (a b : Int) : Int := ((Nat.gcd a.toNat b.toNat : Nat) : Int)
theorem gdI_pos {a b : Int} (hb : 1 ≤ b) : 1 ≤ gdI a b := by
 unfold gdI
 have : 0 < Nat.gcd a.toNat b.toNat := Nat.gcd_pos_of_pos_right _ (by omega)
 omega
theorem gdI_dvd_r {a b : Int} (hb : 0 ≤ b) : gdI a b ∣ b := by
 have h : (((Nat.gcd a.toNat b.toNat : Nat)) : Int) ∣ ((b.toNat : Nat) : Int) := Int.natCast_dvd_natCast.2 (Nat.gcd_dvd_right _ _)
 rwa [Int.toNat_of_nonneg hb] at h
theorem gdI_dvd_l {a b : Int} (ha : 0 ≤ a) : gdI a b ∣ a := by
 have h : (((Nat.gcd a.toNat b.toNat : Nat)) : Int) ∣ ((a.toNat : Nat) : Int) := Int.natCast_dvd_natCast.2 (Nat.gcd_dvd_left _ _)
 rwa [Int.toNat_of_nonneg ha] at h
theorem gdI_nat (x y : Nat) : gdI x y = ((Nat.gcd x y : Nat) : Int) := by unfold gdI; rw [Int.toNat_natCast, Int.toNat_natCast]
/-- A ratio of 0 to 1 in lowest terms. -/
theorem pl_facts {a b : Int} (h0 : 0 ≤ a) (h1 : a ≤ b) (hb : 1 ≤ b) : 0 ≤ a / gdI a b ∧ a / gdI a b ≤ b / gdI a b ∧ 1 ≤ b / gdI a b ∧ b / gdI a b ≤ b := by
 have hg := gdI_pos (a := a) hb
 obtain ⟨q, hq⟩ := gdI_dvd_r (a := a) (b := b) (by omega)
 generalize gdI a b = g at *
 have hq1 : 1 ≤ q := by
  rcases Int.lt_or_le q 1 with h | h
  ·have := Int.mul_le_mul_of_nonneg_left (show q ≤ 0 by omega) (show 0 ≤ g by omega); rw [Int.mul_zero] at this; omega
  ·exact h
 have hbq : b / g = q := by rw [hq, Int.mul_ediv_cancel_left _ (by omega)]
 refine ⟨Int.ediv_nonneg h0 (by omega), Int.ediv_le_ediv (by omega) h1, by omega, ?_⟩
 rw [hbq, hq]
 have := Int.mul_le_mul_of_nonneg_right hg (show 0 ≤ q by omega); rw [Int.one_mul] at this; exact this

set_option maxHeartbeats 2000000 in
theorem impl_lowest (n m : Int) (h0 : 0 ≤ n) (h1 : n ≤ 9000000000000000000) (h2 : 1 ≤ m) (h3 : m ≤ 9000000000000000000) (w : World) :
 Calls Tryz.prog 91 #[.int .i64 n, .int .i64 m] w fun e w' => e = .returned (.agg #[.int .i64 (n / gdI n m), .int .i64 (m / gdI n m)]) ∧ Below w.heap.size w w' := by
 obtain ⟨n, rfl⟩ := Int.eq_ofNat_of_zero_le h0
 obtain ⟨m, rfl⟩ := Int.eq_ofNat_of_zero_le (show 0 ≤ m by omega)
 rw [gdI_nat]
 obtain ⟨g, hg⟩ : ∃ g, g = Nat.gcd n m := ⟨_, rfl⟩
 have hgp : 0 < g := by rw [hg]; exact Nat.gcd_pos_of_pos_right _ (by omega)
 rw [← hg]
 have hd1 : (n : Int) / (g : Int) ≤ n := Int.ediv_le_self _ (by omega)
 have hd2 : (m : Int) / (g : Int) ≤ m := Int.ediv_le_self _ (by omega)
 have hd3 : 0 ≤ (n : Int) / (g : Int) := Int.ediv_nonneg (by omega) (by omega)
 have hd4 : 0 ≤ (m : Int) / (g : Int) := Int.ediv_nonneg (by omega) (by omega)
 have we1 := hide (show IntKind.i64.wrap ((n : Int) / (g : Int)) = (n : Int) / (g : Int) from IntWalk.i64_in _ (by omega))
 have we2 := hide (show IntKind.i64.wrap ((m : Int) / (g : Int)) = (m : Int) / (g : Int) from IntWalk.i64_in _ (by omega))
 have Hg0 := hide hg.symm
 clear hg
 have emx : max (n : Int) (-(n : Int)) = n := by omega
 go_enter Tryz.func91, Tryz.ntmps91
 go_wp2
 go_loopw [5, 6] (fun a b wr => ∃ x y : Nat, a = .int .i64 x ∧ b = .int .i64 y ∧ Hid (Nat.gcd x y = g) ∧ x ≤ 9000000000000000000 ∧ y ≤ 9000000000000000000 ∧ wr.cell? ⟨w.heap.size, 0, none⟩ = some (.int .i64 0) ∧ wr.cell? ⟨w.heap.size, 1, none⟩ = some (.int .i64 0) ∧ wr.frozen? ⟨w.heap.size, 0, none⟩ = false ∧ wr.frozen? ⟨w.heap.size, 1, none⟩ = false ∧ Below w.heap.size w wr) (fun _ b _ => (intOf b).toNat)
 case atStart => exact ⟨n, m, rfl, rfl, Hg0, by omega, by omega, by go_simp, by go_simp, by go_simp, by go_simp, bwz⟩
 case round =>
  obtain ⟨x, y, rfl, rfl, Hg, hx, hy, c0, c1, d0, d1, hbl⟩ := hrel
  by_cases hy0 : y = 0
  ·subst hy0
   have hxg := Hg.out
   rw [Nat.gcd_zero_right] at hxg
   subst hxg
   have hg0 : ((x : Int) == 0) = false := beq_eq_false_iff_ne.2 (by omega)
   have hg1 : ((x : Int) == -1) = false := beq_eq_false_iff_ne.2 (by omega)
   have f1 := we1.out
   have f2 := we2.out
   clear Hg Hg0
   simp only [show ((0 : Nat) : Int) = 0 from rfl]
   go_wp2
   go_region
   all_goals go_wp2
   all_goals (simp [bodyPost, results, Tryz.results91, go_sem, *])
   all_goals exact bwz
  ·have k1 : (x : Int) % (y : Int) = ((x % y : Nat) : Int) := rfl
   have k2 : x % y < y := Nat.mod_lt _ (by omega)
   have hy1 : ((y : Int) == 0) = false := beq_eq_false_iff_ne.2 (by omega)
   have hy2 : ((y : Int) == -1) = false := beq_eq_false_iff_ne.2 (by omega)
   go_wp2
   go_region
   go_wp2
   go_roundw
   case rel => exact ⟨y, x % y, rfl, rfl, hide (by rw [← Hg.out, Nat.gcd_comm y, ← Nat.gcd_rec, Nat.gcd_comm]), by omega, by omega, by go_simp, by go_simp, by go_simp, by go_simp, bwz⟩
   case measure => simp [intOf]; omega
set_option maxHeartbeats 2000000 in
theorem spec_l02Gcd (n m : Int) (h0 : 0 ≤ n) (h1 : n ≤ 9000000000000000000) (h2 : 0 ≤ m) (h3 : m ≤ 9000000000000000000) (w : World) :
 Calls Tryz.prog 111 #[.int .i64 n, .int .i64 m] w fun e w' => e = .returned (.int .i64 (gdI n m)) ∧ w = w' := by
 obtain ⟨n, rfl⟩ := Int.eq_ofNat_of_zero_le h0
 obtain ⟨m, rfl⟩ := Int.eq_ofNat_of_zero_le h2
 rw [gdI_nat]
 obtain ⟨g, hg⟩ : ∃ g, g = Nat.gcd n m := ⟨_, rfl⟩
 rw [← hg]
 have Hg0 := hide hg.symm
 clear hg
 go_enter Tryz.func111, Tryz.ntmps111
 go_wp2
 go_loop [0, 1] (fun a b => ∃ x y : Nat, a = .int .i64 x ∧ b = .int .i64 y ∧ Hid (Nat.gcd x y = g) ∧ x ≤ 9000000000000000000 ∧ y ≤ 9000000000000000000) (fun _ b => (intOf b).toNat)
 case atStart => exact ⟨n, m, rfl, rfl, Hg0, by omega, by omega⟩
 case round =>
  obtain ⟨x, y, rfl, rfl, Hg, hx, hy⟩ := hrel
  by_cases hy0 : y = 0
  ·subst hy0
   have hxg := Hg.out
   rw [Nat.gcd_zero_right] at hxg
   subst hxg
   simp only [show ((0 : Nat) : Int) = 0 from rfl]
   go_wp2
   go_ret
   exact ⟨rfl, rfl⟩
  ·have k2 : x % y < y := Nat.mod_lt _ (by omega)
   have hy1 : ((y : Int) == 0) = false := beq_eq_false_iff_ne.2 (by omega)
   have hy2 : ((y : Int) == -1) = false := beq_eq_false_iff_ne.2 (by omega)
   have hy3 : (0 : Int) < (y : Int) := by omega
   go_wp2
   go_round
   case rel => exact ⟨y, x % y, rfl, rfl, hide (by rw [← Hg.out, Nat.gcd_comm y, ← Nat.gcd_rec, Nat.gcd_comm]), by omega, by omega⟩
   case measure => simp [intOf]; omega
set_option maxHeartbeats 2000000 in
theorem spec_l02Ratio (n m : Int) (h0 : 0 ≤ n) (h1 : n ≤ 9000000000000000000) (h2 : 1 ≤ m) (h3 : m ≤ 9000000000000000000) (w : World) :
 Calls Tryz.prog 99 #[.int .i64 n, .int .i64 m] w fun e w' => e = .returned (.agg #[.int .i64 (n / gdI n m), .int .i64 (m / gdI n m)]) ∧ Below w.heap.size w w' := by
 have hg := gdI_pos (a := n) h2
 have KG := hide (fun W => spec_l02Gcd n m h0 h1 (by omega) h3 W)
 have ha : absI n = n := by unfold absI; rw [if_neg (by omega)]
 have KA := hide (fun W => ha ▸ spec_l01Abs n (by omega) h1 W)
 obtain ⟨g, hgg⟩ : ∃ g, g = gdI n m := ⟨_, rfl⟩
 rw [← hgg] at KG hg ⊢
 have hd1 : n / g ≤ n := Int.ediv_le_self _ (by omega)
 have hd2 : m / g ≤ m := Int.ediv_le_self _ (by omega)
 have hd3 : 0 ≤ n / g := Int.ediv_nonneg (by omega) (by omega)
 have hd4 : 0 ≤ m / g := Int.ediv_nonneg (by omega) (by omega)
 have f1 : IntKind.i64.wrap (n / g) = n / g := IntWalk.i64_in _ (by omega)
 have f2 : IntKind.i64.wrap (m / g) = m / g := IntWalk.i64_in _ (by omega)
 have hg0 : (g == 0) = false := beq_eq_false_iff_ne.2 (by omega)
 have hg1 : (g == -1) = false := beq_eq_false_iff_ne.2 (by omega)
 clear hgg
 go_enter Tryz.func99, Tryz.ntmps99
 go_wp2_with (first | (go_at_call 112; (with_reducible refine (KA.out _).mono ?_); rintro e w9 ⟨rfl, rfl⟩) | (go_at_call 111; (with_reducible refine (KG.out _).mono ?_); rintro e w9 ⟨rfl, rfl⟩))
 go_region
 all_goals go_wp2
 all_goals (simp [bodyPost, results, Tryz.results99, go_sem, *])
 all_goals exact bwz
set_option maxHeartbeats 2000000 in
theorem bits_Div64_small (lo y : Int) (h0 : 0 ≤ lo) (h1 : lo ≤ 18446744073709551615) (h2 : 1 ≤ y) (h3 : y ≤ 9223372036854775807) (w : World) :
 Calls Tryz.prog 93 #[.int .u64 0, .int .u64 lo, .int .u64 y] w fun e w' => e = .returned (.tuple #[.int .u64 (lo / y), .int .u64 (lo % y)]) ∧ Below w.heap.size w w' := by
 have hy0 : (y == 0) = false := beq_eq_false_iff_ne.2 (by omega)
 have hq0 : 0 ≤ lo / y := Int.ediv_nonneg h0 (by omega)
 have hq1 : lo / y ≤ lo := Int.ediv_le_self _ h0
 have hr0 : 0 ≤ lo % y := Int.emod_nonneg _ (by omega)
 have hr1 : lo % y < y := Int.emod_lt_of_pos _ (by omega)
 go_enter Tryz.func93, Tryz.ntmps93
 go_wp2
 go_region
 go_wp2
 go_ret2
 exact ⟨rfl, bwz⟩
theorem hi64_small {p : Int} (h0 : 0 ≤ p) (h1 : p ≤ 18446744073709551615) : hi64 p = 0 ∧ lo64 p = p := by unfold hi64 lo64; omega
set_option maxHeartbeats 2000000 in
theorem impl_mulDiv_small (a b c : Int) (h1 : 0 ≤ a) (h2 : a ≤ 9223372036854775807) (h3 : 0 ≤ b) (h4 : b ≤ 9223372036854775807) (h5 : 1 ≤ c) (h6 : c ≤ 9223372036854775807) (h7 : a * b ≤ 18446744073709551615) (h8 : a * b / c ≤ 9223372036854775807) (w : World) :
 Calls Tryz.prog 80 #[.int .i64 a, .int .i64 b, .int .i64 c] w fun e w' => e = .returned (.tuple #[.int .i64 (a * b / c), .bool (decide (0 < a * b % c))]) ∧ Below w.heap.size w w' := by
 have hp := Int.mul_nonneg h1 h3
 have K1 := fun W => bits_Mul64 a b h1 h2 h3 h4 W
 obtain ⟨e1, e2⟩ := hi64_small hp h7
 rw [e1, e2] at K1
 generalize a * b = p at *
 have KM := hide K1
 have KD := hide (fun W => bits_Div64_small p c hp h7 h5 h6 W)
 have hq0 : 0 ≤ p / c := Int.ediv_nonneg hp (by omega)
 have hr0 : 0 ≤ p % c := Int.emod_nonneg _ (by omega)
 have hr1 : p % c < c := Int.emod_lt_of_pos _ (by omega)
 clear K1 e1 e2
 go_enter Tryz.func80, Tryz.ntmps80
 go_wp2_with (first | (go_at_call 92; (with_reducible refine (KM.out _).mono ?_); rintro e w9 ⟨rfl, rfl⟩) | (go_at_call 93; (with_reducible refine (KD.out _).mono ?_); rintro e w9 ⟨rfl, hb⟩))
 go_ret2
 exact ⟨rfl, hb⟩
end Go.Proofs.YtcmjcedlbhdihaaGreatDoor
