/- Walks: products in two words, the root of d * d * m. -/
import Derived.Test.YtklbbopdmnopgaaGreatDoorD
import Derived.Shelf.Bits.Mul64
namespace Go.Proofs.YtklbbopdmnopgaaGreatDoor
open Go.RowKit Go.Shelf

def mul64Ren : Go.Shelf.Ren := ⟨fun | 264 => 80 | n => n, fun | 53 => 112 | 46 => 116 | n => n, fun | n => n⟩
theorem mul64Lays : Go.Proofs.Lays.n264 Tryz.prog mul64Ren := {
 mixed := by kernel_rfl
 f264 := Tryz.func80.trans (congrArg some (by kernel_rfl))
 t46 := Tryz.underlying116
 a46 := Tryz.isAgg116
 z46 := Tryz.sizeOf116
 v46 := Tryz.zeroValue116
 t53 := Tryz.underlying112
 a53 := Tryz.isAgg112
 z53 := Tryz.sizeOf112
 v53 := Tryz.zeroValue112 }
theorem bits_Mul64 (x y : Int) (hx : 0 ≤ x) (hx' : x ≤ 9223372036854775807) (hy : 0 ≤ y) (hy' : y ≤ 9223372036854775807) (w : World) :
 Calls Tryz.prog 80 #[.int .u64 x, .int .u64 y] w fun e w' => e = .returned (.tuple #[.int .u64 (hi64 (x * y)), .int .u64 (lo64 (x * y))]) ∧ w = w' := by
 obtain ⟨x, rfl⟩ := Int.eq_ofNat_of_zero_le hx
 obtain ⟨y, rfl⟩ := Int.eq_ofNat_of_zero_le hy
 refine (Any.bits_Mul64 mul64Lays x y (by omega) (by omega) w).mono fun e w' h => ⟨?_, h.2.symm⟩
 rw [h.1]
 unfold hi64 lo64
 rw [← Int.natCast_mul]
 rfl
theorem impl_compareProducts (a b c d : Int) (h1 : 0 ≤ a) (h1' : a ≤ 9223372036854775807) (h2 : 0 ≤ b) (h2' : b ≤ 9223372036854775807) (h3 : 0 ≤ c) (h3' : c ≤ 9223372036854775807) (h4 : 0 ≤ d) (h4' : d ≤ 9223372036854775807) (w : World) :
 Calls Tryz.prog 71 #[.int .i64 a, .int .i64 b, .int .i64 c, .int .i64 d] w fun e w' => e = .returned (.int .i64 (sgn (a * b - c * d))) ∧ w = w' := by
 have hc := cmp64 (a * b) (c * d)
 have Hc := hide hc
 clear hc
 have k1 : ∀ W, Calls Tryz.prog 80 #[.int .u64 a, .int .u64 b] W fun e w' => e = .returned (.tuple #[.int .u64 (hi64 (a * b)), .int .u64 (lo64 (a * b))]) ∧ W = w' := fun W => bits_Mul64 a b h1 h1' h2 h2' W
 have k2 : ∀ W, Calls Tryz.prog 80 #[.int .u64 c, .int .u64 d] W fun e w' => e = .returned (.tuple #[.int .u64 (hi64 (c * d)), .int .u64 (lo64 (c * d))]) ∧ W = w' := fun W => bits_Mul64 c d h3 h3' h4 h4' W
 have K1 := hide k1
 have K2 := hide k2
 clear k1 k2
 go_enter Tryz.func71, Tryz.ntmps71
 go_wp2_with (first | (go_at_call 80; (with_reducible refine (K1.out _).mono ?_); rintro e w9 ⟨rfl, rfl⟩) | (go_at_call 80; (with_reducible refine (K2.out _).mono ?_); rintro e w9 ⟨rfl, rfl⟩))
 all_goals (go_ret; exact ⟨ret_i (by rw [Hc.out]; (repeat' split) <;> first | rfl | (exfalso; (try simp only [beq_iff_eq, beq_eq_false_iff_ne, ne_eq] at *); omega)), rfl⟩)
theorem nn_bd {a b : Int} (A B C : Int) (h1 : 0 ≤ a) (h2 : a ≤ A) (h3 : 0 ≤ b) (h4 : b ≤ B) (hc : A * B = C) : 0 ≤ a * b ∧ a * b ≤ C :=
 ⟨Int.mul_nonneg h1 h3, (mul_bd' A B C (by omega) h2 (by omega) h4 hc).2⟩
end Go.Proofs.YtklbbopdmnopgaaGreatDoor
