/- Walks: products in two words, the root of d * d * m. -/
import Derived.Test.YtgcdgdnmcdffoaaGreatDoorD
import Derived.Shelf.Bits.Mul64
namespace Go.Proofs.YtgcdgdnmcdffoaaGreatDoor
open Go.RowKit Go.Shelf

def mul64Ren : Go.Shelf.Ren := ⟨fun | 264 => 160 | n => n, fun | 53 => 186 | 46 => 203 | n => n, fun | n => n⟩
theorem mul64Lays : Go.Proofs.Lays.n264 Tryz.prog mul64Ren := {
 mixed := by kernel_rfl
 f264 := Tryz.func160.trans (congrArg some (by kernel_rfl))
 t46 := Tryz.underlying203
 a46 := Tryz.isAgg203
 z46 := Tryz.sizeOf203
 v46 := Tryz.zeroValue203
 t53 := Tryz.underlying186
 a53 := Tryz.isAgg186
 z53 := Tryz.sizeOf186
 v53 := Tryz.zeroValue186 }
theorem bits_Mul64 (x y : Int) (hx : 0 ≤ x) (hx' : x ≤ 9223372036854775807) (hy : 0 ≤ y) (hy' : y ≤ 9223372036854775807) (w : World) :
 Calls Tryz.prog 160 #[.int .u64 x, .int .u64 y] w fun e w' => e = .returned (.tuple #[.int .u64 (hi64 (x * y)), .int .u64 (lo64 (x * y))]) ∧ w = w' := by
 obtain ⟨x, rfl⟩ := Int.eq_ofNat_of_zero_le hx
 obtain ⟨y, rfl⟩ := Int.eq_ofNat_of_zero_le hy
 refine (Any.bits_Mul64 mul64Lays x y (by omega) (by omega) w).mono fun e w' h => ⟨?_, h.2.symm⟩
 rw [h.1]
 unfold hi64 lo64
 rw [← Int.natCast_mul]
 rfl
theorem impl_compareProducts (a b c d : Int) (h1 : 0 ≤ a) (h1' : a ≤ 9223372036854775807) (h2 : 0 ≤ b) (h2' : b ≤ 9223372036854775807) (h3 : 0 ≤ c) (h3' : c ≤ 9223372036854775807) (h4 : 0 ≤ d) (h4' : d ≤ 9223372036854775807) (w : World) :
 Calls Tryz.prog 136 #[.int .i64 a, .int .i64 b, .int .i64 c, .int .i64 d] w fun e w' => e = .returned (.int .i64 (sgn (a * b - c * d))) ∧ w = w' := by
 have hc := cmp64 (a * b) (c * d)
 have Hc := hide hc
 clear hc
 have k1 : ∀ W, Calls Tryz.prog 160 #[.int .u64 a, .int .u64 b] W fun e w' => e = .returned (.tuple #[.int .u64 (hi64 (a * b)), .int .u64 (lo64 (a * b))]) ∧ W = w' := fun W => bits_Mul64 a b h1 h1' h2 h2' W
 have k2 : ∀ W, Calls Tryz.prog 160 #[.int .u64 c, .int .u64 d] W fun e w' => e = .returned (.tuple #[.int .u64 (hi64 (c * d)), .int .u64 (lo64 (c * d))]) ∧ W = w' := fun W => bits_Mul64 c d h3 h3' h4 h4' W
 have K1 := hide k1
 have K2 := hide k2
 clear k1 k2
 go_enter Tryz.func136, Tryz.ntmps136
 go_wp2_with (first | (go_at_call 160; (with_reducible refine (K1.out _).mono ?_); rintro e w9 ⟨rfl, rfl⟩) | (go_at_call 160; (with_reducible refine (K2.out _).mono ?_); rintro e w9 ⟨rfl, rfl⟩))
 all_goals (go_ret; exact ⟨ret_i (by rw [Hc.out]; (repeat' split) <;> first | rfl | (exfalso; (try simp only [beq_iff_eq, beq_eq_false_iff_ne, ne_eq] at *); omega)), rfl⟩)
theorem nn_bd {a b : Int} (A B C : Int) (h1 : 0 ≤ a) (h2 : a ≤ A) (h3 : 0 ≤ b) (h4 : b ≤ B) (hc : A * B = C) : 0 ≤ a * b ∧ a * b ≤ C :=
 ⟨Int.mul_nonneg h1 h3, (mul_bd' A B C (by omega) h2 (by omega) h4 hc).2⟩
def hi40 (p : Int) : Int := p / 1099511627776
def lo40 (p : Int) : Int := p % 1099511627776
theorem leq40 (p q : Int) : p ≤ q ↔ (hi40 p < hi40 q ∨ (hi40 p = hi40 q ∧ lo40 p ≤ lo40 q)) := by unfold hi40 lo40; omega
theorem ret_ii {a b c d : Int} (h : a = b) (h' : c = d) : Ending.returned (.tuple #[.int .i64 a, .int .i64 c]) = .returned (.tuple #[.int .i64 b, .int .i64 d]) := by rw [h, h']
set_option maxHeartbeats 1000000 in
theorem spec_l02Wide (x y : Int) (h1 : 0 ≤ x) (h2 : x ≤ 40000000000) (h3 : 0 ≤ y) (h4 : y ≤ 40000000000000) (w : World) :
 Calls Tryz.prog 209 #[.int .i64 x, .int .i64 y] w fun e w' => e = .returned (.tuple #[.int .i64 (hi40 (x * y)), .int .i64 (lo40 (x * y))]) ∧ w = w' := by
 have u0 : 0 ≤ x / 1048576 := by omega
 have u1 : x / 1048576 ≤ 40000 := by omega
 have v0 : 0 ≤ x % 1048576 := by omega
 have v1 : x % 1048576 ≤ 1048576 := by omega
 have p0 : 0 ≤ y / 1048576 := by omega
 have p1 : y / 1048576 ≤ 40000000 := by omega
 have q0 : 0 ≤ y % 1048576 := by omega
 have q1 : y % 1048576 ≤ 1048576 := by omega
 obtain ⟨a1, a2⟩ := nn_bd 1048576 1048576 1099511627776 v0 v1 q0 q1 (by decide)
 obtain ⟨b1, b2⟩ := nn_bd 40000 1048576 41943040000 u0 u1 q0 q1 (by decide)
 obtain ⟨c1, c2⟩ := nn_bd 1048576 40000000 41943040000000 v0 v1 p0 p1 (by decide)
 obtain ⟨d1, d2⟩ := nn_bd 40000 40000000 1600000000000 u0 u1 p0 p1 (by decide)
 have H := hide (wide_eq x y (x / 1048576) (x % 1048576) (y / 1048576) (y % 1048576) _ _ (by omega) (by omega) rfl rfl a1)
 go_enter Tryz.func209, Tryz.ntmps209
 go_wp2
 go_ret2
 exact ⟨ret_ii H.out.1 H.out.2, rfl⟩
set_option maxHeartbeats 1000000 in
theorem spec_l02Less (x d m : Int) (h1 : 0 ≤ x) (h2 : x ≤ 40000000000) (h3 : 0 ≤ d) (h4 : d ≤ 10000) (h5 : 0 ≤ m) (h6 : m ≤ 8000000000000) (w : World) :
 Calls Tryz.prog 199 #[.int .i64 x, .int .i64 d, .int .i64 m] w fun e w' => e = .returned (.bool (decide (x * x ≤ d * d * m))) ∧ w = w' := by
 have hl := leq40 (x * x) (d * d * m)
 have Hl := hide hl
 clear hl
 obtain ⟨d1, d2⟩ := nn_bd 10000 10000 100000000 h3 h4 h3 h4 (by decide)
 go_enter Tryz.func199, Tryz.ntmps199
 go_wp2_with (first | (go_at_call 209; (with_reducible refine (spec_l02Wide x x h1 h2 h1 (by omega) _).mono ?_); rintro e w9 ⟨rfl, rfl⟩) | (go_at_call 209; (with_reducible refine (spec_l02Wide (d * d) m d1 (by omega) h5 (by omega) _).mono ?_); rintro e w9 ⟨rfl, rfl⟩))
 all_goals (go_ret; exact ⟨ret_b (by rw [Bool.eq_iff_iff]; simp only [decide_eq_true_eq, Hl.out, true_iff]; omega), rfl⟩)
set_option maxHeartbeats 1000000 in
theorem spec_l02RootOf (d m : Int) (h3 : 0 ≤ d) (h4 : d ≤ 10000) (h5 : 0 ≤ m) (h6 : m ≤ 8000000000000) (w : World) :
 Calls Tryz.prog 189 #[.int .i64 d, .int .i64 m] w fun e w' => e = .returned (.int .i64 (rt (d * d * m))) ∧ w = w' := by
 have r0 := rt_nonneg m
 have r1 := rt_le (n := m) (b := 3000000) h5 (by omega) (by omega)
 obtain ⟨d1, d2⟩ := nn_bd 10000 3000001 30000010000 h3 h4 (show 0 ≤ rt m + 1 by omega) (by omega) (by decide)
 have top : d * d * m < (d * (rt m + 1) + 1) * (d * (rt m + 1) + 1) := by
  have k1 := (rt_spec h5).2
  have k2 : d * d * m ≤ d * d * ((rt m + 1) * (rt m + 1)) := Int.mul_le_mul_of_nonneg_left (by omega) (Int.mul_nonneg h3 h3)
  have k3 : d * d * ((rt m + 1) * (rt m + 1)) = d * (rt m + 1) * (d * (rt m + 1)) := by grind
  have k4 : (d * (rt m + 1) + 1) * (d * (rt m + 1) + 1) = d * (rt m + 1) * (d * (rt m + 1)) + 2 * (d * (rt m + 1)) + 1 := by grind
  omega
 have bot : 0 ≤ d * d * m := Int.mul_nonneg (Int.mul_nonneg h3 h3) h5
 have Ht := hide top
 clear top
 go_enter Tryz.func189, Tryz.ntmps189
 go_wp2_with (go_at_call 108; (with_reducible refine (spec_l01Root m h5 (by omega) _).mono ?_); rintro e w9 ⟨rfl, rfl⟩)
 go_loop [5, 6] (fun a b => ∃ l h : Int, 0 ≤ l ∧ l < h ∧ h ≤ 30000010001 ∧ l * l ≤ d * d * m ∧ d * d * m < h * h ∧ a = .int .i64 l ∧ b = .int .i64 h) (fun a b => (intOf b - intOf a).toNat)
 case atStart => exact ⟨0, d * (rt m + 1) + 1, by omega, by omega, by omega, by omega, Ht.out, rfl, rfl⟩
 case round =>
  obtain ⟨l, h, hl0, hlh, hh, hl, hn, rfl, rfl⟩ := hrel
  by_cases hc : l + 1 < h
  ·have hm1 : l < (l + h) / 2 := by omega
   have hm2 : (l + h) / 2 < h := by omega
   by_cases hq : (l + h) / 2 * ((l + h) / 2) ≤ d * d * m
   ·go_wp2_with (go_at_call 199; (with_reducible refine (spec_l02Less _ d m (by omega) (by omega) h3 h4 h5 h6 _).mono ?_); rintro e w9 ⟨rfl, rfl⟩)
    go_round
    case rel => exact ⟨(l + h) / 2, h, by omega, by omega, by omega, hq, hn, rfl, rfl⟩
    case measure => simp [intOf]; omega
   ·go_wp2_with (go_at_call 199; (with_reducible refine (spec_l02Less _ d m (by omega) (by omega) h3 h4 h5 h6 _).mono ?_); rintro e w9 ⟨rfl, rfl⟩)
    go_round
    case rel => exact ⟨l, (l + h) / 2, by omega, by omega, by omega, hl, by omega, rfl, rfl⟩
    case measure => simp [intOf]; omega
  ·have hf := hide (rt_eq hl0 hl (by have : h = l + 1 := by omega
                                     rw [← this]; exact hn))
   go_wp2
   go_ret
   exact ⟨ret_i hf.out, rfl⟩
end Go.Proofs.YtgcdgdnmcdffoaaGreatDoor
