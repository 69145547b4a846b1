/- Walks: products in two words, the root of d * d * m. -/
import Derived.Test.YtcmjcedlbhdihaaGreatDoorD
import Derived.Shelf.Bits.Mul64
namespace Go.Proofs.YtcmjcedlbhdihaaGreatDoor
open Go.RowKit Go.Shelf

def mul64Ren : Go.Shelf.Ren := ⟨fun | 264 => 92 | n => n, fun | 53 => 129 | 46 => 133 | n => n, fun | n => n⟩
theorem mul64Lays : Go.Proofs.Lays.n264 Tryz.prog mul64Ren := {
 mixed := by kernel_rfl
 f264 := Tryz.func92.trans (congrArg some (by kernel_rfl))
 t46 := Tryz.underlying133
 a46 := Tryz.isAgg133
 z46 := Tryz.sizeOf133
 v46 := Tryz.zeroValue133
 t53 := Tryz.underlying129
 a53 := Tryz.isAgg129
 z53 := Tryz.sizeOf129
 v53 := Tryz.zeroValue129 }
theorem bits_Mul64 (x y : Int) (hx : 0 ≤ x) (hx' : x ≤ 9223372036854775807) (hy : 0 ≤ y) (hy' : y ≤ 9223372036854775807) (w : World) :
 Calls Tryz.prog 92 #[.int .u64 x, .int .u64 y] w fun e w' => e = .returned (.tuple #[.int .u64 (hi64 (x * y)), .int .u64 (lo64 (x * y))]) ∧ w = w' := by
 obtain ⟨x, rfl⟩ := Int.eq_ofNat_of_zero_le hx
 obtain ⟨y, rfl⟩ := Int.eq_ofNat_of_zero_le hy
 refine (Any.bits_Mul64 mul64Lays x y (by omega) (by omega) w).mono fun e w' h => ⟨?_, h.2.symm⟩
 rw [h.1]
 unfold hi64 lo64
 rw [← Int.natCast_mul]
 rfl
theorem nn_bd {a b : Int} (A B C : Int) (h1 : 0 ≤ a) (h2 : a ≤ A) (h3 : 0 ≤ b) (h4 : b ≤ B) (hc : A * B = C) : 0 ≤ a * b ∧ a * b ≤ C :=
 ⟨Int.mul_nonneg h1 h3, (mul_bd' A B C (by omega) h2 (by omega) h4 hc).2⟩
end Go.Proofs.YtcmjcedlbhdihaaGreatDoor
