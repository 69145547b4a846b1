/- Walks: math/bits.Div64 where the quotient is below 2^31. -/
import Derived.Test.YtgcdgdnmcdffoaaGreatDoorGd
import Derived.Shelf.Small.Bits
import Derived.LoopTactic
import Derived.Deep.DeepCutAuto
import Derived.Lib.ItoaNum
import Derived.Test.YtgcdgdnmcdffoaaGreatDoorXp
import Derived.Test.YtgcdgdnmcdffoaaGreatDoorCu
import Derived.Test.YtgcdgdnmcdffoaaGreatDoorZl
namespace Go.Proofs.YtgcdgdnmcdffoaaGreatDoor
open Go.RowKit Go.Shelf

def lzRen : Go.Shelf.Ren := ⟨fun | 129 => 197 | 134 => 185 | n => n, fun | 3 => 3 | 4 => 4 | 5 => 5 | 9 => 9 | 46 => 203 | 53 => 186 | n => n, fun | n => n⟩
theorem lzLays : Go.Proofs.Lays.n134 Tryz.prog lzRen := {
 mixed := by kernel_rfl
 f129 := Tryz.func197.trans (congrArg some (by kernel_rfl))
 f134 := Tryz.func185.trans (congrArg some (by kernel_rfl))
 t3 := Tryz.underlying3
 a3 := Tryz.isAgg3
 z3 := Tryz.sizeOf3
 v3 := Tryz.zeroValue3
 t4 := Tryz.underlying4
 a4 := Tryz.isAgg4
 z4 := Tryz.sizeOf4
 v4 := Tryz.zeroValue4
 t5 := Tryz.underlying5
 a5 := Tryz.isAgg5
 z5 := Tryz.sizeOf5
 v5 := Tryz.zeroValue5
 t9 := Tryz.underlying9
 a9 := Tryz.isAgg9
 z9 := Tryz.sizeOf9
 v9 := Tryz.zeroValue9
 t46 := Tryz.underlying203
 a46 := Tryz.isAgg203
 z46 := Tryz.sizeOf203
 v46 := Tryz.zeroValue203
 t53 := Tryz.underlying186
 a53 := Tryz.isAgg186
 z53 := Tryz.sizeOf186
 v53 := Tryz.zeroValue186 }
/-- How far a number of 1 to 2^63 - 1 is shifted so that its first bit is the highest. -/
theorem lz_shift (y : Int) (h1 : 1 ≤ y) (h2 : y ≤ 9223372036854775807) : ∃ s t : Nat, 64 - (Lib.bitLen y.toNat : Int) = (s : Int) ∧ 1 ≤ s ∧ s ≤ 63 ∧ s + t = 64 ∧ 9223372036854775808 ≤ y * 2 ^ s ∧ y * 2 ^ s < 18446744073709551616 := by
 obtain ⟨n, rfl⟩ := Int.eq_ofNat_of_zero_le (show 0 ≤ y by omega)
 rw [Int.toNat_natCast]
 obtain ⟨a, b, c⟩ := Lib.bitLenAux_bounds 64 n (by omega) (by omega)
 have l := Lib.bitLen_le n 63 (by decide) (by omega)
 have e : Lib.bitLenAux 64 n = Lib.bitLen n := rfl
 rw [e] at a b c
 generalize Lib.bitLen n = L at *
 refine ⟨64 - L, L, by omega, by omega, by omega, by omega, ?_, ?_⟩
 ·have h5 := Nat.mul_le_mul_right (2 ^ (64 - L)) b
  rw [← Nat.pow_add, show L - 1 + (64 - L) = 63 by omega] at h5
  have h6 : ((n * 2 ^ (64 - L) : Nat) : Int) = (n : Int) * 2 ^ (64 - L) := by rw [Int.natCast_mul, Int.natCast_pow]; rfl
  rw [← h6]
  omega
 ·have h5 := (Nat.mul_lt_mul_right (Nat.two_pow_pos (64 - L))).2 c
  rw [← Nat.pow_add, show L + (64 - L) = 64 by omega] at h5
  have h6 : ((n * 2 ^ (64 - L) : Nat) : Int) = (n : Int) * 2 ^ (64 - L) := by rw [Int.natCast_mul, Int.natCast_pow]; rfl
  rw [← h6]
  omega
theorem bits_LeadingZeros64 (y : Int) (h0 : 0 ≤ y) (h1 : y ≤ 18446744073709551615) (w : World) :
 Calls Tryz.prog 185 #[.int .u64 y] w fun e w' => e = .returned (.int .i64 (64 - (Lib.bitLen y.toNat : Int))) ∧ w = w' :=
 (Any.bits_LeadingZeros64 lzLays y w h0 h1).mono fun _ _ h => ⟨h.1, h.2.symm⟩
/-- The shifted dividend in two words. -/
theorem dv_norm (hi lo P T : Int) (hP : 1 ≤ P) (_ : 1 ≤ T) (hPT : P * T = 18446744073709551616) :
 (hi * 18446744073709551616 + lo) * P = (hi * P + lo / T) * 18446744073709551616 + lo * P % 18446744073709551616 := by
 have e1 := Int.emod_add_mul_ediv (lo * P) 18446744073709551616
 have e2 : lo * P / 18446744073709551616 = lo / T := by
  rw [← hPT, Int.mul_comm P T]
  exact Int.mul_ediv_mul_of_pos_left _ _ (by omega)
 rw [e2] at e1
 grind
theorem dv_quo (n y P : Int) (hP : 1 ≤ P) : n * P / (y * P) = n / y := Int.mul_ediv_mul_of_pos_left _ _ (by omega)
theorem dv_rem (n y P : Int) (_ : 1 ≤ P) : n * P - n / y * (y * P) = n % y * P := by
 have e1 := Int.emod_add_mul_ediv n y
 grind
/-- The test of a digit that is tried. -/
theorem kn_test {q rh u21 u0 y1 y0 : Int} (h : q * y1 + rh = u21) : q * y0 > 4294967296 * rh + u0 ↔ u21 * 4294967296 + u0 < q * (y1 * 4294967296 + y0) := by
 have e : q * (y1 * 4294967296 + y0) = q * y1 * 4294967296 + q * y0 := by grind
 rw [e]
 generalize q * y1 = a at *
 generalize q * y0 = b at *
 omega
theorem kn_more {q rh u21 u0 y1 y0 : Int} (hy : 0 < y1 * 4294967296 + y0) (h : q * y1 + rh = u21) (k : 4294967296 * rh + u0 < q * y0) : (u21 * 4294967296 + u0) / (y1 * 4294967296 + y0) ≤ q - 1 := by
 have := (kn_test (u0 := u0) (y0 := y0) h).1 k
 have := Int.ediv_lt_of_lt_mul hy this
 omega
theorem kn_done {q rh u21 u0 y1 y0 : Int} (hy : 0 < y1 * 4294967296 + y0) (h : q * y1 + rh = u21) (k : ¬ 4294967296 * rh + u0 < q * y0) (hq : (u21 * 4294967296 + u0) / (y1 * 4294967296 + y0) ≤ q) : q = (u21 * 4294967296 + u0) / (y1 * 4294967296 + y0) := by
 have h1 : ¬ u21 * 4294967296 + u0 < q * (y1 * 4294967296 + y0) := fun h2 => k ((kn_test (u0 := u0) (y0 := y0) h).2 h2)
 have := Int.le_ediv_of_mul_le hy (Int.not_lt.1 h1)
 omega
theorem rem_wrap (a u b : Int) (h : 0 ≤ a + u - b) (h' : a + u - b < 18446744073709551616) : IntKind.u64.wrap (IntKind.u64.wrap (IntKind.u64.wrap a + u) - IntKind.u64.wrap b) = a + u - b := by
 simp only [IntKind.wrap_u64]
 omega
theorem and32 (x : Int) (h0 : 0 ≤ x) (h1 : x < 18446744073709551616) : bits BinOp.and IntKind.u64 x 4294967295 = x % 4294967296 := by
 obtain ⟨n, rfl⟩ := Int.eq_ofNat_of_zero_le h0
 have h := bits_and_u64_nat n 4294967295 (by omega) (by decide)
 rw [show (4294967295 : Nat) = 2 ^ 32 - 1 from rfl, Nat.and_two_pow_sub_one_eq_mod] at h
 exact h.trans (by omega)
theorem or_sum (a b P : Nat) (s : Nat) (hP : P = 2 ^ s) (hb : b < P) (h : a * P + b < 18446744073709551616) : bits BinOp.or IntKind.u64 ((a * P : Nat) : Int) (b : Int) = ((a * P + b : Nat) : Int) := by
 rw [bits_or_u64_nat _ _ (by omega) (by omega)]
 subst hP
 rw [Nat.mul_comm a, ← Nat.two_pow_add_eq_or_of_lt hb]
set_option maxHeartbeats 4000000 in
theorem bits_Div64_q (hi lo y : Int) (h0 : 1 ≤ hi) (h1 : 0 ≤ lo) (h2 : lo ≤ 18446744073709551615) (h3 : 1 ≤ y) (h4 : y ≤ 9223372036854775807) (hq : (hi * 18446744073709551616 + lo) / y ≤ 2147483647) (w : World) :
 Calls Tryz.prog 161 #[.int .u64 hi, .int .u64 lo, .int .u64 y] w fun e w' => e = .returned (.tuple #[.int .u64 ((hi * 18446744073709551616 + lo) / y), .int .u64 ((hi * 18446744073709551616 + lo) % y)]) ∧ Below w.heap.size w w' := by
 have hN : hi * 18446744073709551616 + lo < 2147483648 * y := by
  have e1 := Int.emod_add_mul_ediv (hi * 18446744073709551616 + lo) y
  have e2 := Int.emod_lt_of_pos (hi * 18446744073709551616 + lo) (show 0 < y by omega)
  have e3 := Int.mul_le_mul_of_nonneg_left hq (show 0 ≤ y by omega)
  omega
 have hhy : hi < y := by omega
 obtain ⟨s, t, hs, s1, s2, st, p1, p2⟩ := lz_shift y h3 h4
 have KL := hide (fun W => hs ▸ bits_LeadingZeros64 y (by omega) (by omega) W)
 have hy0 : (y == 0) = false := beq_eq_false_iff_ne.2 (by omega)
 have hh0 : (hi == 0) = false := beq_eq_false_iff_ne.2 (by omega)
 have hle : ¬ y ≤ hi := by omega
 have hmin : min s 64 = s := by omega
 have hmint : min t 64 = t := by omega
 have hts : (64 : Int) - (s : Int) = (t : Int) := by omega
 -- the powers
 have hP1 : (1 : Int) ≤ 2 ^ s := by have := Int.pow_pos (n := 2) (m := s) (by decide); omega
 have hT1 : (1 : Int) ≤ 2 ^ t := by have := Int.pow_pos (n := 2) (m := t) (by decide); omega
 have hPT : (2 : Int) ^ s * 2 ^ t = 18446744073709551616 := by rw [← Int.pow_add, st]; rfl
 have hNorm := dv_norm hi lo (2 ^ s) (2 ^ t) hP1 hT1 hPT
 have hQuo := dv_quo (hi * 18446744073709551616 + lo) y (2 ^ s) hP1
 have hRem := dv_rem (hi * 18446744073709551616 + lo) y (2 ^ s) hP1
 have hUb : (hi * 18446744073709551616 + lo) * 2 ^ s < 2147483648 * (y * 2 ^ s) := by
  have := (Int.mul_lt_mul_right (show (0 : Int) < 2 ^ s by omega)).2 hN
  rw [Int.mul_assoc] at this
  exact this
 have hr0 := Int.emod_nonneg (hi * 18446744073709551616 + lo) (b := y) (by omega)
 have hr1 := Int.emod_lt_of_pos (hi * 18446744073709551616 + lo) (b := y) (by omega)
 have hd0 : 0 ≤ lo / 2 ^ t := Int.ediv_nonneg h1 (by omega)
 have hd1 : lo / 2 ^ t < 2 ^ s := Int.ediv_lt_of_lt_mul (by omega) (by rw [hPT]; omega)
 have hhP : 0 ≤ hi * 2 ^ s := Int.mul_nonneg (by omega) (by omega)
 have hor : bits BinOp.or IntKind.u64 (hi * 2 ^ s) (lo / 2 ^ t) = hi * 2 ^ s + lo / 2 ^ t := by
  obtain ⟨a, rfl⟩ := Int.eq_ofNat_of_zero_le (show 0 ≤ hi by omega)
  obtain ⟨b, hb⟩ := Int.eq_ofNat_of_zero_le hd0
  have e2 : ((a * 2 ^ s : Nat) : Int) = (a : Int) * 2 ^ s := by rw [Int.natCast_mul, Int.natCast_pow]; rfl
  have e3 : ((2 ^ s : Nat) : Int) = (2 : Int) ^ s := by rw [Int.natCast_pow]; rfl
  rw [hb] at hd1 hNorm ⊢
  have hle1 : (a : Int) * 2 ^ s + (b : Int) < 18446744073709551616 := by
   have k0 := Int.emod_nonneg (lo * 2 ^ s) (b := 18446744073709551616) (by decide)
   omega
  rw [← e2] at hle1 ⊢
  have := or_sum a b (2 ^ s) s rfl (by omega) (by omega)
  rw [this]
  omega
 -- names
 obtain ⟨yn, hyn⟩ : ∃ v, v = y * 2 ^ s := ⟨_, rfl⟩
 obtain ⟨u32, hu32⟩ : ∃ v, v = hi * 2 ^ s + lo / 2 ^ t := ⟨_, rfl⟩
 obtain ⟨u10, hu10⟩ : ∃ v, v = lo * 2 ^ s % 18446744073709551616 := ⟨_, rfl⟩
 obtain ⟨Q, hQ⟩ : ∃ v, v = (hi * 18446744073709551616 + lo) / y := ⟨_, rfl⟩
 obtain ⟨R, hR⟩ : ∃ v, v = (hi * 18446744073709551616 + lo) % y := ⟨_, rfl⟩
 rw [← hQ] at hq hQuo hRem ⊢
 rw [← hR] at hRem hr0 hr1 ⊢
 rw [← hyn] at p1 p2 hQuo hRem hUb
 rw [← hu32] at hNorm hor
 rw [← hu10] at hNorm
 rw [hNorm] at hQuo hRem hUb
 obtain ⟨hp, hhp⟩ : ∃ v, v = hi * 2 ^ s := ⟨_, rfl⟩
 have hpb : 0 ≤ hp ∧ hp < 18446744073709551616 := by
  have k0 := Int.emod_nonneg (lo * 2 ^ s) (b := 18446744073709551616) (by decide)
  omega
 have whp : IntKind.u64.wrap (hi * 2 ^ s) = hp := by rw [IntKind.wrap_u64, hhp]; omega
 rw [← hhp] at hor
 have hw10 : IntKind.u64.wrap (lo * 2 ^ s) = u10 := by rw [IntKind.wrap_u64, hu10]
 have hb10 : 0 ≤ u10 ∧ u10 < 18446744073709551616 := by omega
 obtain ⟨y1, hy1⟩ : ∃ v, v = yn / 4294967296 := ⟨_, rfl⟩
 obtain ⟨y0, hy0'⟩ : ∃ v, v = yn % 4294967296 := ⟨_, rfl⟩
 obtain ⟨u1, hu1⟩ : ∃ v, v = u10 / 4294967296 := ⟨_, rfl⟩
 obtain ⟨u0, hu0⟩ : ∃ v, v = u10 % 4294967296 := ⟨_, rfl⟩
 have ay := and32 yn (by omega) p2
 have au := and32 u10 hb10.1 hb10.2
 rw [← hy0'] at ay
 rw [← hu0] at au
 have hu32b : 0 ≤ u32 ∧ u32 < 2147483648 := by omega
 have hy1b : 2147483648 ≤ y1 ∧ y1 ≤ 4294967295 := by omega
 have hy0b : 0 ≤ y0 ∧ y0 ≤ 4294967295 := by omega
 have hu1b : 0 ≤ u1 ∧ u1 ≤ 4294967295 := by omega
 have hu0b : 0 ≤ u0 ∧ u0 ≤ 4294967295 := by omega
 have hyd : yn = y1 * 4294967296 + y0 := by omega
 have hud : u10 = u1 * 4294967296 + u0 := by omega
 obtain ⟨u21, hu21⟩ : ∃ v, v = u32 * 4294967296 + u1 := ⟨_, rfl⟩
 have hUU : u32 * 18446744073709551616 + u10 = u21 * 4294967296 + u0 := by omega
 rw [hUU] at hQuo hRem
 have hu21b : 0 ≤ u21 ∧ u21 ≤ 9223372036854775807 := by omega
 have hq1 : u32 / y1 = 0 := Int.ediv_eq_zero_of_lt hu32b.1 (by omega)
 have hy1z : (y1 == 0) = false := beq_eq_false_iff_ne.2 (by omega)
 obtain ⟨q0, hq0⟩ : ∃ v, v = u21 / y1 := ⟨_, rfl⟩
 have e0 := Int.emod_add_mul_ediv u21 y1
 have e1 := Int.emod_nonneg u21 (b := y1) (by omega)
 have e2 := Int.emod_lt_of_pos u21 (show 0 < y1 by omega)
 rw [← hq0] at e0
 have hq0b : 0 ≤ q0 ∧ q0 ≤ 4294967295 := by
  rw [hq0]
  refine ⟨Int.ediv_nonneg hu21b.1 (by omega), ?_⟩
  have : u21 / y1 < 4294967296 := Int.ediv_lt_of_lt_mul (by omega) (by omega)
  omega
 obtain ⟨rh0, hrh0⟩ : ∃ v, v = u21 % y1 := ⟨_, rfl⟩
 rw [← hrh0] at e0 e1 e2
 obtain ⟨qy, hqy⟩ : ∃ v, v = q0 * y1 := ⟨_, rfl⟩
 have hqy2 : y1 * q0 = qy := by rw [hqy]; exact Int.mul_comm _ _
 rw [hqy2] at e0
 have hqyb : 0 ≤ qy ∧ qy ≤ u21 := by have := Int.mul_nonneg hq0b.1 (show 0 ≤ y1 by omega); omega
 have hsub : u21 - qy = rh0 := by omega
 have hstart := hide (show q0 * y1 + rh0 = u21 by omega)
 have hynp : 0 < y1 * 4294967296 + y0 := by omega
 rw [hyd] at hQuo
 have hQle := hide (show Q ≤ q0 by
  rw [← hQuo, hq0]
  -- the first try is at least the digit
  have a1 : (u21 * 4294967296 + u0) / (y1 * 4294967296 + y0) ≤ (u21 * 4294967296 + u0) / (y1 * 4294967296) := by
   apply Int.le_ediv_of_mul_le (by omega)
   have b1 := Int.ediv_mul_le (u21 * 4294967296 + u0) (b := y1 * 4294967296 + y0) (by omega)
   have b0 : 0 ≤ (u21 * 4294967296 + u0) / (y1 * 4294967296 + y0) := Int.ediv_nonneg (by omega) (by omega)
   have b2 := Int.mul_le_mul_of_nonneg_left (show y1 * 4294967296 ≤ y1 * 4294967296 + y0 by omega) b0
   omega
  have a2 : (u21 * 4294967296 + u0) / (y1 * 4294967296) = u21 / y1 := by
   rw [Int.mul_comm y1, ← Int.ediv_ediv_of_nonneg (by decide)]
   congr 1
   omega
  omega)
 have hfr : 0 ≤ R * 2 ^ s := Int.mul_nonneg hr0 (by omega)
 have hfr2 : R * 2 ^ s < 18446744073709551616 := by
  have := Int.mul_le_mul_of_nonneg_right (show R ≤ y by omega) (show (0 : Int) ≤ 2 ^ s by omega)
  omega
 have hend : IntKind.u64.wrap (IntKind.u64.wrap (IntKind.u64.wrap (u21 * 4294967296) + u0) - IntKind.u64.wrap (Q * yn)) = R * 2 ^ s := by
  rw [rem_wrap _ _ _ (by omega) (by omega)]
  exact hRem
 have hdv : R * 2 ^ s / 2 ^ s = R := Int.mul_ediv_cancel _ (by omega)
 have hdv2 : (R * 2 ^ s).fdiv (2 ^ s) = R := by rw [Int.fdiv_eq_ediv_of_nonneg _ (by omega)]; exact hdv
 have Hmore := hide (fun (q rh : Int) (h : q * y1 + rh = u21) (k : 4294967296 * rh + u0 < q * y0) => hQuo ▸ kn_more hynp h k)
 have Hdone := hide (fun (q rh : Int) (h : q * y1 + rh = u21) (k : ¬ 4294967296 * rh + u0 < q * y0) (k2 : Q ≤ q) => hQuo ▸ kn_done hynp h k (hQuo.symm ▸ k2))
 have Hend := hide hend
 have Hbs := hide (And.intro hu0b (And.intro hy0b hy1b))
 obtain ⟨k1, k2⟩ := hu32b
 obtain ⟨k3, k4⟩ := hy1b
 obtain ⟨k5, k6⟩ := hy0b
 obtain ⟨k7, k8⟩ := hu1b
 obtain ⟨k9, k10⟩ := hu0b
 obtain ⟨k11, k12⟩ := hu21b
 obtain ⟨k13, k14⟩ := hq0b
 obtain ⟨k15, k16⟩ := hqyb
 have ey := hyn.symm
 have e32 := hu32.symm
 have e21 := hu21.symm
 have ey1 := hy1.symm
 have eu1 := hu1.symm
 have eq0 := hq0.symm
 have eqy := hqy.symm
 clear hNorm hQuo hRem hUb hN hq hd0 hd1 hPT hyd hud hUU e0 hrh0 hqy2 hQ hR hy0' hu0 hu10 hyn hhp hpb hb10 hu32 hu21 hy1 hu1 hq0 hqy e32 hend hr0 hr1
 go_enter Tryz.func161, Tryz.ntmps161
 go_upto_region 17 with (go_at_call 185; (with_reducible refine (KL.out _).mono ?_); rintro e w9 ⟨rfl, rfl⟩)
 have nf : ¬ 4294967296 * u32 + u1 < 0 := by omega
 go_loop [15, 16] (fun a b => a = .int .u64 (u32 / y1) ∧ b = .int .u64 u32) (fun _ _ => 0)
 case atStart => exact ⟨rfl, rfl⟩
 case round =>
  obtain ⟨rfl, rfl⟩ := hrel
  go_wp2
  go_loop [18, 16] (fun a b => ∃ q rh : Int, a = .int .u64 q ∧ b = .int .u64 rh ∧ 0 ≤ q ∧ q ≤ 4294967295 ∧ 0 ≤ rh ∧ rh ≤ 4294967295 ∧ Hid (q * y1 + rh = u21) ∧ Hid (Q ≤ q)) (fun a _ => (intOf a).toNat)
  case atStart => exact ⟨q0, rh0, by simp [*], by simp [*], k13, k14, e1, by omega, hstart, hQle⟩
  case round =>
   obtain ⟨q, rh, rfl, rfl, b1, b2', b3, b4', HI, HQ⟩ := hrel
   obtain ⟨c1, c2⟩ := nn_bd 4294967295 4294967295 18446744065119617025 b1 b2' k5 k6 (by decide)
   clear hstart hQle
   by_cases k : 4294967296 * rh + u0 < q * y0
   ·have hq' := Hmore.out q rh HI.out k
    have hqp : 1 ≤ q := by
     rcases Int.lt_or_le q 1 with h | h
     ·have : q = 0 := by omega
      subst this
      rw [Int.zero_mul] at k; omega
     ·exact h
    by_cases k20 : 4294967296 ≤ rh + y1
    ·have he : q - 1 = Q := by
      obtain ⟨d1, d2⟩ := nn_bd 4294967295 4294967295 18446744065119617025 (show 0 ≤ q - 1 by omega) (by omega) k5 k6 (by decide)
      refine Hdone.out (q - 1) (rh + y1) ?_ (by omega) hq'
      have := HI.out
      rw [Int.sub_mul]; omega
     have hend := Hend.out
     clear HI HQ Hmore Hdone hq' Hend
     go_wp2
     go_ret2
     exact ⟨by simp [*], bwz⟩
    ·have HI2 := hide (show (q - 1) * y1 + (rh + y1) = u21 by have := HI.out; rw [Int.sub_mul]; omega)
     have HQ2 := hide hq'
     clear HI HQ hq'
     go_wp2
     go_round
     case rel => exact ⟨q - 1, rh + y1, rfl, rfl, by omega, by omega, by omega, by omega, HI2, HQ2⟩
     case measure => simp [intOf]; omega
   ·have he := Hdone.out q rh HI.out (by omega) HQ.out
    subst he
    have hend := Hend.out
    clear HI HQ Hmore Hdone Hend
    go_wp2
    go_ret2
    exact ⟨by simp [*], bwz⟩
end Go.Proofs.YtgcdgdnmcdffoaaGreatDoor
/- Walks: the side of a line, the way across it, the place of a crossing, a quotient in steps of 1000; of both. -/
namespace Go.Proofs.YtgcdgdnmcdffoaaGreatDoor
open Go.RowKit

theorem sgn_pos (c : Int) : (0 < sgn c) ↔ 0 < c := by unfold sgn; (repeat' split) <;> omega
theorem sgn_rng (c : Int) : -1 ≤ sgn c ∧ sgn c ≤ 1 := by unfold sgn; (repeat' split) <;> omega
theorem sgn_m (a b : Int) : -1 ≤ sgn a * sgn b ∧ sgn a * sgn b ≤ 1 := by
 rcases (by have := sgn_rng a; omega : sgn a = -1 ∨ sgn a = 0 ∨ sgn a = 1) with h | h | h <;> rw [h] <;> have := sgn_rng b <;> omega
/-- The way by the sides. -/
theorem wayI_s (ax ay bx bY px py qx qy : Int) : wayI ax ay bx bY px py qx qy = (if (decide (0 < sgn (crs ax ay bx bY px py)) == decide (0 < sgn (crs ax ay bx bY qx qy))) || decide (0 < sgn (crs px py qx qy ax ay) * sgn (crs px py qx qy bx bY)) then 0 else if 0 < sgn (crs ax ay bx bY qx qy) then 1 else -1) := by
 unfold wayI
 simp only [sgn_pos]
theorem impl_sideOf (ax ay bx bY px py : Int) (h1 : Sm ax) (h2 : Sm ay) (h3 : Sm bx) (h4 : Sm bY) (h5 : Sm px) (h6 : Sm py) (w : World) :
 Calls Tryz.prog 194 #[.agg #[.int .i64 ax, .int .i64 ay, .int .i64 bx, .int .i64 bY], .agg #[.int .i64 px, .int .i64 py]] w fun e w' => e = .returned (.int .i64 (sgn (crs ax ay bx bY px py))) ∧ Below w.heap.size w w' := by
 go_enter Tryz.func194, Tryz.ntmps194
 go_wp2_with (go_at_call 195; (with_reducible refine (impl_turn _ _ _ _ _ _ h1 h2 h3 h4 h5 h6 _).mono ?_); rintro e w9 ⟨rfl, hb⟩; obtain ⟨hc, hf⟩ := bcell hb; have hz := hb.size; have z0 : w.heap.size < w9.heap.size := (by first | omega | (simp at hz; omega)); have z1 : w.heap.size + 1 < w9.heap.size := (by first | omega | (simp at hz; omega)))
 go_ret
 exact ⟨rfl, bwz⟩
theorem spec_l04Before (ax ay bx bY px py : Int) (h1 : Sm ax) (h2 : Sm ay) (h3 : Sm bx) (h4 : Sm bY) (h5 : Sm px) (h6 : Sm py) (w : World) :
 Calls Tryz.prog 200 #[.agg #[.int .i64 ax, .int .i64 ay, .int .i64 bx, .int .i64 bY], .agg #[.int .i64 px, .int .i64 py]] w fun e w' => e = .returned (.int .i64 (sgn (crs ax ay bx bY px py))) ∧ Below w.heap.size w w' := by
 go_enter Tryz.func200, Tryz.ntmps200
 go_wp2_with (go_at_call 191; (with_reducible refine (spec_l01Turn _ _ _ _ _ _ h1 h2 h3 h4 h5 h6 _).mono ?_); rintro e w9 ⟨rfl, hb⟩; obtain ⟨hc, hf⟩ := bcell hb; have hz := hb.size; have z0 : w.heap.size < w9.heap.size := (by first | omega | (simp at hz; omega)); have z1 : w.heap.size + 1 < w9.heap.size := (by first | omega | (simp at hz; omega)))
 go_ret
 exact ⟨rfl, bwz⟩
theorem spec_l05Before (ax ay bx bY px py s : Int) (hs : sgn (crs ax ay bx bY px py) = s) (h1 : Sm ax) (h2 : Sm ay) (h3 : Sm bx) (h4 : Sm bY) (h5 : Sm px) (h6 : Sm py) (w : World) :
 Calls Tryz.prog 190 #[.agg #[.int .i64 ax, .int .i64 ay, .int .i64 bx, .int .i64 bY], .agg #[.int .i64 px, .int .i64 py]] w fun e w' => e = .returned (.bool (!decide (0 < s))) ∧ Below w.heap.size w w' := by
 have K := hide (fun W => hs ▸ spec_l04Before ax ay bx bY px py h1 h2 h3 h4 h5 h6 W)
 clear hs
 by_cases hp : 0 < s
 ·have e : (!decide (0 < s)) = false := by rw [decide_eq_true hp]; rfl
  rw [e]
  clear e
  have hp2 : ¬ s ≤ 0 := by omega
  go_enter Tryz.func190, Tryz.ntmps190
  go_wp2_with (go_at_call 200; (with_reducible refine (K.out _).mono ?_); rintro e w9 ⟨rfl, hb⟩; obtain ⟨hc, hf⟩ := bcell hb; have hz := hb.size; have z0 : w.heap.size < w9.heap.size := (by first | omega | (simp at hz; omega)); have z1 : w.heap.size + 1 < w9.heap.size := (by first | omega | (simp at hz; omega)))
  go_ret
  exact ⟨by first | rfl | (simp [*]; done) | (simp; omega), bwz⟩
 ·have e : (!decide (0 < s)) = true := by rw [decide_eq_false hp]; rfl
  rw [e]
  clear e
  have hp2 : s ≤ 0 := by omega
  go_enter Tryz.func190, Tryz.ntmps190
  go_wp2_with (go_at_call 200; (with_reducible refine (K.out _).mono ?_); rintro e w9 ⟨rfl, hb⟩; obtain ⟨hc, hf⟩ := bcell hb; have hz := hb.size; have z0 : w.heap.size < w9.heap.size := (by first | omega | (simp at hz; omega)); have z1 : w.heap.size + 1 < w9.heap.size := (by first | omega | (simp at hz; omega)))
  go_ret
  exact ⟨by first | rfl | (simp [*]; done) | (simp; omega), bwz⟩
set_option maxRecDepth 100000 in
set_option maxHeartbeats 8000000 in
theorem impl_wayAcross (ax ay bx bY px py qx qy : Int) (h1 : Sm ax) (h2 : Sm ay) (h3 : Sm bx) (h4 : Sm bY) (h5 : Sm px) (h6 : Sm py) (h7 : Sm qx) (h8 : Sm qy) (w : World) :
 Calls Tryz.prog 181 #[.agg #[.int .i64 ax, .int .i64 ay, .int .i64 bx, .int .i64 bY], .agg #[.int .i64 px, .int .i64 py], .agg #[.int .i64 qx, .int .i64 qy]] w fun e w' => e = .returned (.int .i64 (wayI ax ay bx bY px py qx qy)) ∧ Below w.heap.size w w' := by
 obtain ⟨r1, r2⟩ := sgn_m (crs px py qx qy ax ay) (crs px py qx qy bx bY)
 rw [wayI_s]
 have K1 := fun W => impl_sideOf ax ay bx bY px py h1 h2 h3 h4 h5 h6 W
 have K2 := fun W => impl_sideOf ax ay bx bY qx qy h1 h2 h3 h4 h7 h8 W
 have K3 := fun W => impl_turn px py qx qy ax ay h5 h6 h7 h8 h1 h2 W
 have K4 := fun W => impl_turn px py qx qy bx bY h5 h6 h7 h8 h3 h4 W
 generalize sgn (crs ax ay bx bY px py) = s1 at *
 generalize sgn (crs ax ay bx bY qx qy) = s2 at *
 generalize sgn (crs px py qx qy ax ay) = u1 at *
 generalize sgn (crs px py qx qy bx bY) = u2 at *
 have we : IntKind.i64.wrap (u1 * u2) = u1 * u2 := IntWalk.i64_in _ (by omega)
 obtain ⟨r9, hr9⟩ : ∃ r : Int, r = (if (decide (0 < s1) == decide (0 < s2)) || decide (0 < u1 * u2) then 0 else if 0 < s2 then 1 else -1) := ⟨_, rfl⟩
 rw [← hr9]
 have Hr9 := hide hr9
 have K1 := hide K1
 have K2 := hide K2
 have K3 := hide K3
 have K4 := hide K4
 clear h1 h2 h3 h4 h5 h6 h7 h8 hr9
 rcases (Classical.em (0 < s1)) with p1 | p1
 ·rcases (Classical.em (0 < s2)) with p2 | p2
  ·have d1 := hide (show decide (0 < s1) = true from decide_eq_true p1)
   have d2 := hide (show decide (0 < s2) = true from decide_eq_true p2)
   go_enter Tryz.func181, Tryz.ntmps181
   go_upto_region 1 with fail
   go_cut [7, 8] (fun s7 s8 W => s7 = .bool true ∧ s8 = .bool true ∧ W.cell? ⟨w.heap.size, 0, none⟩ = some (.int .i64 ax) ∧ W.cell? ⟨w.heap.size, 1, none⟩ = some (.int .i64 ay) ∧ W.cell? ⟨w.heap.size, 2, none⟩ = some (.int .i64 bx) ∧ W.cell? ⟨w.heap.size, 3, none⟩ = some (.int .i64 bY) ∧ W.cell? ⟨w.heap.size + 1, 0, none⟩ = some (.int .i64 px) ∧ W.cell? ⟨w.heap.size + 1, 1, none⟩ = some (.int .i64 py) ∧ W.cell? ⟨w.heap.size + 2, 0, none⟩ = some (.int .i64 qx) ∧ W.cell? ⟨w.heap.size + 2, 1, none⟩ = some (.int .i64 qy) ∧ Below w.heap.size w W ∧ w.heap.size + 3 ≤ W.heap.size)
   case first =>
    obtain ⟨wT, hT⟩ : ∃ W, W = (((w.alloc (.cells #[.int .i64 ax, .int .i64 ay, .int .i64 bx, .int .i64 bY] 27)).alloc (.cells #[.int .i64 px, .int .i64 py] 25)).alloc (.cells #[.int .i64 qx, .int .i64 qy] 25)) := ⟨_, rfl⟩
    have m0 : wT.cell? ⟨w.heap.size, 0, none⟩ = some (.int .i64 ax) := by rw [hT]; go_simp
    have m1 : wT.cell? ⟨w.heap.size, 1, none⟩ = some (.int .i64 ay) := by rw [hT]; go_simp
    have m2 : wT.cell? ⟨w.heap.size, 2, none⟩ = some (.int .i64 bx) := by rw [hT]; go_simp
    have m3 : wT.cell? ⟨w.heap.size, 3, none⟩ = some (.int .i64 bY) := by rw [hT]; go_simp
    have m4 : wT.cell? ⟨w.heap.size + 1, 0, none⟩ = some (.int .i64 px) := by rw [hT]; go_simp
    have m5 : wT.cell? ⟨w.heap.size + 1, 1, none⟩ = some (.int .i64 py) := by rw [hT]; go_simp
    have m6 : wT.cell? ⟨w.heap.size + 1 + 1, 0, none⟩ = some (.int .i64 qx) := by rw [hT]; go_simp
    have m7 : wT.cell? ⟨w.heap.size + 1 + 1, 1, none⟩ = some (.int .i64 qy) := by rw [hT]; go_simp
    have HBT := hide (show Below w.heap.size w wT by rw [hT]; exact bwz)
    have zT2 : w.heap.size + 1 + 1 < wT.heap.size := by rw [hT]; simp
    have zT1 : w.heap.size + 1 < wT.heap.size := by omega
    have zT0 : w.heap.size < wT.heap.size := by omega
    rw [← hT]
    clear hT
    refine wp_region_held_drew (S := fun W => Below wT.heap.size wT W) (by kernel_rfl) (Below.drew (Below.refl _ _)) (fun hHeld => ?_)
    refine tkL 0 (some 9) rfl ?_; simp only [pz]
    refine tkL 1 (some 10) rfl ?_; simp only [pz]
    refine tkL 4 (some 13) rfl ?_; simp only [pz]
    refine tkL 5 (some 14) rfl ?_; simp only [pz]
    refine rd1 2 (some 11) rfl (fun K hK => ?_)
    go_simp; (first | (go_at_call 194; (with_reducible refine (K1.out _).mono ?_); rintro e w9 ⟨rfl, hb⟩) | (go_at_call 194; (with_reducible refine (K2.out _).mono ?_); rintro e w9 ⟨rfl, hb⟩))
    all_goals (try go_wp2_with fail)
    refine hK.out _ _ ?_ (fun hH2 => ?_)
    ·exact hhz
    clear hK K hHeld; (have hHeld := hH2); clear hH2; (try simp only [pz])
    refine tkN 3 (some 12) rfl ?_; simp only [pz]
    refine rd1 6 (some 15) rfl (fun K hK => ?_)
    go_simp; (first | (go_at_call 194; (with_reducible refine (K1.out _).mono ?_); rintro e w9 ⟨rfl, hb⟩) | (go_at_call 194; (with_reducible refine (K2.out _).mono ?_); rintro e w9 ⟨rfl, hb⟩))
    all_goals (try go_wp2_with fail)
    refine hK.out _ _ ?_ (fun hH2 => ?_)
    ·exact hhz
    clear hK K hHeld; (have hHeld := hH2); clear hH2; (try simp only [pz])
    refine tkN 7 (some 16) rfl ?_; simp only [pz]
    refine tkN 8 (some 7) rfl ?_; simp only [pz]
    refine tkN 9 (some 8) rfl ?_; simp only [pz]
    refine wpAnyH_done (by kernel_rfl) ?_ _; (try simp only [pz])
    go_wp2_with fail
    go_meet
    exact ⟨by simp [*], by simp [*], cell_later hHeld m0, cell_later hHeld m1, cell_later hHeld m2, cell_later hHeld m3, cell_later hHeld m4, cell_later hHeld m5, cell_later hHeld m6, cell_later hHeld m7, bstep HBT.out hHeld, (by have := hHeld.size; omega)⟩
   case rest =>
    obtain ⟨rfl, rfl, m0, m1, m2, m3, m4, m5, m6, m7, kB, kz⟩ := hcut
    have HBT := hide kB
    have zT2 : w.heap.size + 1 + 1 < wc.heap.size := by omega
    have zT1 : w.heap.size + 1 < wc.heap.size := by omega
    have zT0 : w.heap.size < wc.heap.size := by omega
    clear kB
    go_upto_region 2 with fail
    refine wp_region_held_drew (S := fun W => Below wc.heap.size wc W) (by kernel_rfl) (Below.drew (Below.refl _ _)) (fun hHeld => ?_)
    refine tkN 0 (some 17) rfl ?_; simp only [pz]
    refine tkN 1 (some 18) rfl ?_; simp only [pz]
    refine tkN 2 (some 19) rfl ?_; simp only [pz]
    refine tkN 3 (some 20) rfl ?_; simp only [pz]
    refine tkO 4 (some 21) rfl ?_; simp only [pz]
    refine tkO 5 (some 22) rfl ?_; simp only [pz]
    refine tkO 6 (some 23) rfl ?_; simp only [pz]
    refine tkO 7 (some 24) rfl ?_; simp only [pz]
    refine tkO 8 (some 25) rfl ?_; simp only [pz]
    refine tkO 9 (some 26) rfl ?_; simp only [pz]
    refine tkO 10 (some 27) rfl ?_; simp only [pz]
    refine tkO 11 (some 28) rfl ?_; simp only [pz]
    refine tkO 12 (some 29) rfl ?_; simp only [pz]
    refine tkO 13 (some 30) rfl ?_; simp only [pz]
    refine tkO 14 (some 31) rfl ?_; simp only [pz]
    refine tkO 15 (some 32) rfl ?_; simp only [pz]
    refine tkN 16 (some 33) rfl ?_; simp only [pz]
    refine wpAnyH_done (by kernel_rfl) ?_ _; (try simp only [pz])
    go_wp2
    go_ret
    exact ⟨by rw [Hr9.out, d1.out, d2.out]; rfl, bstep HBT.out hHeld⟩
  ·have d1 := hide (show decide (0 < s1) = true from decide_eq_true p1)
   have d2 := hide (show decide (0 < s2) = false from decide_eq_false p2)
   go_enter Tryz.func181, Tryz.ntmps181
   go_upto_region 1 with fail
   go_cut [7, 8] (fun s7 s8 W => s7 = .bool true ∧ s8 = .bool false ∧ W.cell? ⟨w.heap.size, 0, none⟩ = some (.int .i64 ax) ∧ W.cell? ⟨w.heap.size, 1, none⟩ = some (.int .i64 ay) ∧ W.cell? ⟨w.heap.size, 2, none⟩ = some (.int .i64 bx) ∧ W.cell? ⟨w.heap.size, 3, none⟩ = some (.int .i64 bY) ∧ W.cell? ⟨w.heap.size + 1, 0, none⟩ = some (.int .i64 px) ∧ W.cell? ⟨w.heap.size + 1, 1, none⟩ = some (.int .i64 py) ∧ W.cell? ⟨w.heap.size + 2, 0, none⟩ = some (.int .i64 qx) ∧ W.cell? ⟨w.heap.size + 2, 1, none⟩ = some (.int .i64 qy) ∧ Below w.heap.size w W ∧ w.heap.size + 3 ≤ W.heap.size)
   case first =>
    obtain ⟨wT, hT⟩ : ∃ W, W = (((w.alloc (.cells #[.int .i64 ax, .int .i64 ay, .int .i64 bx, .int .i64 bY] 27)).alloc (.cells #[.int .i64 px, .int .i64 py] 25)).alloc (.cells #[.int .i64 qx, .int .i64 qy] 25)) := ⟨_, rfl⟩
    have m0 : wT.cell? ⟨w.heap.size, 0, none⟩ = some (.int .i64 ax) := by rw [hT]; go_simp
    have m1 : wT.cell? ⟨w.heap.size, 1, none⟩ = some (.int .i64 ay) := by rw [hT]; go_simp
    have m2 : wT.cell? ⟨w.heap.size, 2, none⟩ = some (.int .i64 bx) := by rw [hT]; go_simp
    have m3 : wT.cell? ⟨w.heap.size, 3, none⟩ = some (.int .i64 bY) := by rw [hT]; go_simp
    have m4 : wT.cell? ⟨w.heap.size + 1, 0, none⟩ = some (.int .i64 px) := by rw [hT]; go_simp
    have m5 : wT.cell? ⟨w.heap.size + 1, 1, none⟩ = some (.int .i64 py) := by rw [hT]; go_simp
    have m6 : wT.cell? ⟨w.heap.size + 1 + 1, 0, none⟩ = some (.int .i64 qx) := by rw [hT]; go_simp
    have m7 : wT.cell? ⟨w.heap.size + 1 + 1, 1, none⟩ = some (.int .i64 qy) := by rw [hT]; go_simp
    have HBT := hide (show Below w.heap.size w wT by rw [hT]; exact bwz)
    have zT2 : w.heap.size + 1 + 1 < wT.heap.size := by rw [hT]; simp
    have zT1 : w.heap.size + 1 < wT.heap.size := by omega
    have zT0 : w.heap.size < wT.heap.size := by omega
    rw [← hT]
    clear hT
    refine wp_region_held_drew (S := fun W => Below wT.heap.size wT W) (by kernel_rfl) (Below.drew (Below.refl _ _)) (fun hHeld => ?_)
    refine tkL 0 (some 9) rfl ?_; simp only [pz]
    refine tkL 1 (some 10) rfl ?_; simp only [pz]
    refine tkL 4 (some 13) rfl ?_; simp only [pz]
    refine tkL 5 (some 14) rfl ?_; simp only [pz]
    refine rd1 2 (some 11) rfl (fun K hK => ?_)
    go_simp; (first | (go_at_call 194; (with_reducible refine (K1.out _).mono ?_); rintro e w9 ⟨rfl, hb⟩) | (go_at_call 194; (with_reducible refine (K2.out _).mono ?_); rintro e w9 ⟨rfl, hb⟩))
    all_goals (try go_wp2_with fail)
    refine hK.out _ _ ?_ (fun hH2 => ?_)
    ·exact hhz
    clear hK K hHeld; (have hHeld := hH2); clear hH2; (try simp only [pz])
    refine tkN 3 (some 12) rfl ?_; simp only [pz]
    refine rd1 6 (some 15) rfl (fun K hK => ?_)
    go_simp; (first | (go_at_call 194; (with_reducible refine (K1.out _).mono ?_); rintro e w9 ⟨rfl, hb⟩) | (go_at_call 194; (with_reducible refine (K2.out _).mono ?_); rintro e w9 ⟨rfl, hb⟩))
    all_goals (try go_wp2_with fail)
    refine hK.out _ _ ?_ (fun hH2 => ?_)
    ·exact hhz
    clear hK K hHeld; (have hHeld := hH2); clear hH2; (try simp only [pz])
    refine tkN 7 (some 16) rfl ?_; simp only [pz]
    refine tkN 8 (some 7) rfl ?_; simp only [pz]
    refine tkN 9 (some 8) rfl ?_; simp only [pz]
    refine wpAnyH_done (by kernel_rfl) ?_ _; (try simp only [pz])
    go_wp2_with fail
    go_meet
    exact ⟨by simp [*], by simp [*], cell_later hHeld m0, cell_later hHeld m1, cell_later hHeld m2, cell_later hHeld m3, cell_later hHeld m4, cell_later hHeld m5, cell_later hHeld m6, cell_later hHeld m7, bstep HBT.out hHeld, (by have := hHeld.size; omega)⟩
   case rest =>
    obtain ⟨rfl, rfl, m0, m1, m2, m3, m4, m5, m6, m7, kB, kz⟩ := hcut
    have HBT := hide kB
    have zT2 : w.heap.size + 1 + 1 < wc.heap.size := by omega
    have zT1 : w.heap.size + 1 < wc.heap.size := by omega
    have zT0 : w.heap.size < wc.heap.size := by omega
    clear kB
    go_upto_region 2 with fail
    rcases (Classical.em (0 < u1 * u2)) with p3 | p3
    ·have d3 := hide (show decide (0 < u1 * u2) = true from decide_eq_true p3)
     refine wp_region_held_drew (S := fun W => Below wc.heap.size wc W) (by kernel_rfl) (Below.drew (Below.refl _ _)) (fun hHeld => ?_)
     refine tkN 0 (some 17) rfl ?_; simp only [pz]
     refine tkN 1 (some 18) rfl ?_; simp only [pz]
     refine tkN 2 (some 19) rfl ?_; simp only [pz]
     refine tkN 3 (some 20) rfl ?_; simp only [pz]
     refine tkL 4 (some 21) rfl ?_; simp only [pz]
     refine tkL 5 (some 22) rfl ?_; simp only [pz]
     refine tkN 6 (some 23) rfl ?_; simp only [pz]
     refine tkL 7 (some 24) rfl ?_; simp only [pz]
     refine tkL 9 (some 26) rfl ?_; simp only [pz]
     refine tkL 10 (some 27) rfl ?_; simp only [pz]
     refine tkN 11 (some 28) rfl ?_; simp only [pz]
     refine tkL 12 (some 29) rfl ?_; simp only [pz]
     refine rd1 8 (some 25) rfl (fun K hK => ?_)
     go_simp; (first | (go_at_call 195; (with_reducible refine (K3.out _).mono ?_); rintro e w9 ⟨rfl, hb⟩) | (go_at_call 195; (with_reducible refine (K4.out _).mono ?_); rintro e w9 ⟨rfl, hb⟩))
     all_goals (try go_wp2_with fail)
     refine hK.out _ _ ?_ (fun hH2 => ?_)
     ·exact hhz
     clear hK K hHeld; (have hHeld := hH2); clear hH2; (try simp only [pz])
     refine rd1 13 (some 30) rfl (fun K hK => ?_)
     go_simp; (first | (go_at_call 195; (with_reducible refine (K3.out _).mono ?_); rintro e w9 ⟨rfl, hb⟩) | (go_at_call 195; (with_reducible refine (K4.out _).mono ?_); rintro e w9 ⟨rfl, hb⟩))
     all_goals (try go_wp2_with fail)
     refine hK.out _ _ ?_ (fun hH2 => ?_)
     ·exact hhz
     clear hK K hHeld; (have hHeld := hH2); clear hH2; (try simp only [pz])
     refine tkN 14 (some 31) rfl ?_; simp only [pz]
     refine tkN 15 (some 32) rfl ?_; simp only [pz]
     refine tkN 16 (some 33) rfl ?_; simp only [pz]
     refine wpAnyH_done (by kernel_rfl) ?_ _; (try simp only [pz])
     go_wp2
     go_ret
     exact ⟨by rw [Hr9.out, d1.out, d2.out, d3.out]; rfl, bstep HBT.out hHeld⟩
    ·have d3 := hide (show decide (0 < u1 * u2) = false from decide_eq_false p3)
     refine wp_region_held_drew (S := fun W => Below wc.heap.size wc W) (by kernel_rfl) (Below.drew (Below.refl _ _)) (fun hHeld => ?_)
     refine tkN 0 (some 17) rfl ?_; simp only [pz]
     refine tkN 1 (some 18) rfl ?_; simp only [pz]
     refine tkN 2 (some 19) rfl ?_; simp only [pz]
     refine tkN 3 (some 20) rfl ?_; simp only [pz]
     refine tkL 4 (some 21) rfl ?_; simp only [pz]
     refine tkL 5 (some 22) rfl ?_; simp only [pz]
     refine tkN 6 (some 23) rfl ?_; simp only [pz]
     refine tkL 7 (some 24) rfl ?_; simp only [pz]
     refine tkL 9 (some 26) rfl ?_; simp only [pz]
     refine tkL 10 (some 27) rfl ?_; simp only [pz]
     refine tkN 11 (some 28) rfl ?_; simp only [pz]
     refine tkL 12 (some 29) rfl ?_; simp only [pz]
     refine rd1 8 (some 25) rfl (fun K hK => ?_)
     go_simp; (first | (go_at_call 195; (with_reducible refine (K3.out _).mono ?_); rintro e w9 ⟨rfl, hb⟩) | (go_at_call 195; (with_reducible refine (K4.out _).mono ?_); rintro e w9 ⟨rfl, hb⟩))
     all_goals (try go_wp2_with fail)
     refine hK.out _ _ ?_ (fun hH2 => ?_)
     ·exact hhz
     clear hK K hHeld; (have hHeld := hH2); clear hH2; (try simp only [pz])
     refine rd1 13 (some 30) rfl (fun K hK => ?_)
     go_simp; (first | (go_at_call 195; (with_reducible refine (K3.out _).mono ?_); rintro e w9 ⟨rfl, hb⟩) | (go_at_call 195; (with_reducible refine (K4.out _).mono ?_); rintro e w9 ⟨rfl, hb⟩))
     all_goals (try go_wp2_with fail)
     refine hK.out _ _ ?_ (fun hH2 => ?_)
     ·exact hhz
     clear hK K hHeld; (have hHeld := hH2); clear hH2; (try simp only [pz])
     refine tkN 14 (some 31) rfl ?_; simp only [pz]
     refine tkN 15 (some 32) rfl ?_; simp only [pz]
     refine tkN 16 (some 33) rfl ?_; simp only [pz]
     refine wpAnyH_done (by kernel_rfl) ?_ _; (try simp only [pz])
     go_wp2
     go_ret
     exact ⟨by rw [Hr9.out, d1.out, d2.out, d3.out]; rw [if_neg (by decide), if_neg (of_decide_eq_false d2.out)]; rfl, bstep HBT.out hHeld⟩
 ·rcases (Classical.em (0 < s2)) with p2 | p2
  ·have d1 := hide (show decide (0 < s1) = false from decide_eq_false p1)
   have d2 := hide (show decide (0 < s2) = true from decide_eq_true p2)
   go_enter Tryz.func181, Tryz.ntmps181
   go_upto_region 1 with fail
   go_cut [7, 8] (fun s7 s8 W => s7 = .bool false ∧ s8 = .bool true ∧ W.cell? ⟨w.heap.size, 0, none⟩ = some (.int .i64 ax) ∧ W.cell? ⟨w.heap.size, 1, none⟩ = some (.int .i64 ay) ∧ W.cell? ⟨w.heap.size, 2, none⟩ = some (.int .i64 bx) ∧ W.cell? ⟨w.heap.size, 3, none⟩ = some (.int .i64 bY) ∧ W.cell? ⟨w.heap.size + 1, 0, none⟩ = some (.int .i64 px) ∧ W.cell? ⟨w.heap.size + 1, 1, none⟩ = some (.int .i64 py) ∧ W.cell? ⟨w.heap.size + 2, 0, none⟩ = some (.int .i64 qx) ∧ W.cell? ⟨w.heap.size + 2, 1, none⟩ = some (.int .i64 qy) ∧ Below w.heap.size w W ∧ w.heap.size + 3 ≤ W.heap.size)
   case first =>
    obtain ⟨wT, hT⟩ : ∃ W, W = (((w.alloc (.cells #[.int .i64 ax, .int .i64 ay, .int .i64 bx, .int .i64 bY] 27)).alloc (.cells #[.int .i64 px, .int .i64 py] 25)).alloc (.cells #[.int .i64 qx, .int .i64 qy] 25)) := ⟨_, rfl⟩
    have m0 : wT.cell? ⟨w.heap.size, 0, none⟩ = some (.int .i64 ax) := by rw [hT]; go_simp
    have m1 : wT.cell? ⟨w.heap.size, 1, none⟩ = some (.int .i64 ay) := by rw [hT]; go_simp
    have m2 : wT.cell? ⟨w.heap.size, 2, none⟩ = some (.int .i64 bx) := by rw [hT]; go_simp
    have m3 : wT.cell? ⟨w.heap.size, 3, none⟩ = some (.int .i64 bY) := by rw [hT]; go_simp
    have m4 : wT.cell? ⟨w.heap.size + 1, 0, none⟩ = some (.int .i64 px) := by rw [hT]; go_simp
    have m5 : wT.cell? ⟨w.heap.size + 1, 1, none⟩ = some (.int .i64 py) := by rw [hT]; go_simp
    have m6 : wT.cell? ⟨w.heap.size + 1 + 1, 0, none⟩ = some (.int .i64 qx) := by rw [hT]; go_simp
    have m7 : wT.cell? ⟨w.heap.size + 1 + 1, 1, none⟩ = some (.int .i64 qy) := by rw [hT]; go_simp
    have HBT := hide (show Below w.heap.size w wT by rw [hT]; exact bwz)
    have zT2 : w.heap.size + 1 + 1 < wT.heap.size := by rw [hT]; simp
    have zT1 : w.heap.size + 1 < wT.heap.size := by omega
    have zT0 : w.heap.size < wT.heap.size := by omega
    rw [← hT]
    clear hT
    refine wp_region_held_drew (S := fun W => Below wT.heap.size wT W) (by kernel_rfl) (Below.drew (Below.refl _ _)) (fun hHeld => ?_)
    refine tkL 0 (some 9) rfl ?_; simp only [pz]
    refine tkL 1 (some 10) rfl ?_; simp only [pz]
    refine tkL 4 (some 13) rfl ?_; simp only [pz]
    refine tkL 5 (some 14) rfl ?_; simp only [pz]
    refine rd1 2 (some 11) rfl (fun K hK => ?_)
    go_simp; (first | (go_at_call 194; (with_reducible refine (K1.out _).mono ?_); rintro e w9 ⟨rfl, hb⟩) | (go_at_call 194; (with_reducible refine (K2.out _).mono ?_); rintro e w9 ⟨rfl, hb⟩))
    all_goals (try go_wp2_with fail)
    refine hK.out _ _ ?_ (fun hH2 => ?_)
    ·exact hhz
    clear hK K hHeld; (have hHeld := hH2); clear hH2; (try simp only [pz])
    refine tkN 3 (some 12) rfl ?_; simp only [pz]
    refine rd1 6 (some 15) rfl (fun K hK => ?_)
    go_simp; (first | (go_at_call 194; (with_reducible refine (K1.out _).mono ?_); rintro e w9 ⟨rfl, hb⟩) | (go_at_call 194; (with_reducible refine (K2.out _).mono ?_); rintro e w9 ⟨rfl, hb⟩))
    all_goals (try go_wp2_with fail)
    refine hK.out _ _ ?_ (fun hH2 => ?_)
    ·exact hhz
    clear hK K hHeld; (have hHeld := hH2); clear hH2; (try simp only [pz])
    refine tkN 7 (some 16) rfl ?_; simp only [pz]
    refine tkN 8 (some 7) rfl ?_; simp only [pz]
    refine tkN 9 (some 8) rfl ?_; simp only [pz]
    refine wpAnyH_done (by kernel_rfl) ?_ _; (try simp only [pz])
    go_wp2_with fail
    go_meet
    exact ⟨by simp [*], by simp [*], cell_later hHeld m0, cell_later hHeld m1, cell_later hHeld m2, cell_later hHeld m3, cell_later hHeld m4, cell_later hHeld m5, cell_later hHeld m6, cell_later hHeld m7, bstep HBT.out hHeld, (by have := hHeld.size; omega)⟩
   case rest =>
    obtain ⟨rfl, rfl, m0, m1, m2, m3, m4, m5, m6, m7, kB, kz⟩ := hcut
    have HBT := hide kB
    have zT2 : w.heap.size + 1 + 1 < wc.heap.size := by omega
    have zT1 : w.heap.size + 1 < wc.heap.size := by omega
    have zT0 : w.heap.size < wc.heap.size := by omega
    clear kB
    go_upto_region 2 with fail
    rcases (Classical.em (0 < u1 * u2)) with p3 | p3
    ·have d3 := hide (show decide (0 < u1 * u2) = true from decide_eq_true p3)
     refine wp_region_held_drew (S := fun W => Below wc.heap.size wc W) (by kernel_rfl) (Below.drew (Below.refl _ _)) (fun hHeld => ?_)
     refine tkN 0 (some 17) rfl ?_; simp only [pz]
     refine tkN 1 (some 18) rfl ?_; simp only [pz]
     refine tkN 2 (some 19) rfl ?_; simp only [pz]
     refine tkN 3 (some 20) rfl ?_; simp only [pz]
     refine tkL 4 (some 21) rfl ?_; simp only [pz]
     refine tkL 5 (some 22) rfl ?_; simp only [pz]
     refine tkN 6 (some 23) rfl ?_; simp only [pz]
     refine tkL 7 (some 24) rfl ?_; simp only [pz]
     refine tkL 9 (some 26) rfl ?_; simp only [pz]
     refine tkL 10 (some 27) rfl ?_; simp only [pz]
     refine tkN 11 (some 28) rfl ?_; simp only [pz]
     refine tkL 12 (some 29) rfl ?_; simp only [pz]
     refine rd1 8 (some 25) rfl (fun K hK => ?_)
     go_simp; (first | (go_at_call 195; (with_reducible refine (K3.out _).mono ?_); rintro e w9 ⟨rfl, hb⟩) | (go_at_call 195; (with_reducible refine (K4.out _).mono ?_); rintro e w9 ⟨rfl, hb⟩))
     all_goals (try go_wp2_with fail)
     refine hK.out _ _ ?_ (fun hH2 => ?_)
     ·exact hhz
     clear hK K hHeld; (have hHeld := hH2); clear hH2; (try simp only [pz])
     refine rd1 13 (some 30) rfl (fun K hK => ?_)
     go_simp; (first | (go_at_call 195; (with_reducible refine (K3.out _).mono ?_); rintro e w9 ⟨rfl, hb⟩) | (go_at_call 195; (with_reducible refine (K4.out _).mono ?_); rintro e w9 ⟨rfl, hb⟩))
     all_goals (try go_wp2_with fail)
     refine hK.out _ _ ?_ (fun hH2 => ?_)
     ·exact hhz
     clear hK K hHeld; (have hHeld := hH2); clear hH2; (try simp only [pz])
     refine tkN 14 (some 31) rfl ?_; simp only [pz]
     refine tkN 15 (some 32) rfl ?_; simp only [pz]
     refine tkN 16 (some 33) rfl ?_; simp only [pz]
     refine wpAnyH_done (by kernel_rfl) ?_ _; (try simp only [pz])
     go_wp2
     go_ret
     exact ⟨by rw [Hr9.out, d1.out, d2.out, d3.out]; rfl, bstep HBT.out hHeld⟩
    ·have d3 := hide (show decide (0 < u1 * u2) = false from decide_eq_false p3)
     refine wp_region_held_drew (S := fun W => Below wc.heap.size wc W) (by kernel_rfl) (Below.drew (Below.refl _ _)) (fun hHeld => ?_)
     refine tkN 0 (some 17) rfl ?_; simp only [pz]
     refine tkN 1 (some 18) rfl ?_; simp only [pz]
     refine tkN 2 (some 19) rfl ?_; simp only [pz]
     refine tkN 3 (some 20) rfl ?_; simp only [pz]
     refine tkL 4 (some 21) rfl ?_; simp only [pz]
     refine tkL 5 (some 22) rfl ?_; simp only [pz]
     refine tkN 6 (some 23) rfl ?_; simp only [pz]
     refine tkL 7 (some 24) rfl ?_; simp only [pz]
     refine tkL 9 (some 26) rfl ?_; simp only [pz]
     refine tkL 10 (some 27) rfl ?_; simp only [pz]
     refine tkN 11 (some 28) rfl ?_; simp only [pz]
     refine tkL 12 (some 29) rfl ?_; simp only [pz]
     refine rd1 8 (some 25) rfl (fun K hK => ?_)
     go_simp; (first | (go_at_call 195; (with_reducible refine (K3.out _).mono ?_); rintro e w9 ⟨rfl, hb⟩) | (go_at_call 195; (with_reducible refine (K4.out _).mono ?_); rintro e w9 ⟨rfl, hb⟩))
     all_goals (try go_wp2_with fail)
     refine hK.out _ _ ?_ (fun hH2 => ?_)
     ·exact hhz
     clear hK K hHeld; (have hHeld := hH2); clear hH2; (try simp only [pz])
     refine rd1 13 (some 30) rfl (fun K hK => ?_)
     go_simp; (first | (go_at_call 195; (with_reducible refine (K3.out _).mono ?_); rintro e w9 ⟨rfl, hb⟩) | (go_at_call 195; (with_reducible refine (K4.out _).mono ?_); rintro e w9 ⟨rfl, hb⟩))
     all_goals (try go_wp2_with fail)
     refine hK.out _ _ ?_ (fun hH2 => ?_)
     ·exact hhz
     clear hK K hHeld; (have hHeld := hH2); clear hH2; (try simp only [pz])
     refine tkN 14 (some 31) rfl ?_; simp only [pz]
     refine tkN 15 (some 32) rfl ?_; simp only [pz]
     refine tkN 16 (some 33) rfl ?_; simp only [pz]
     refine wpAnyH_done (by kernel_rfl) ?_ _; (try simp only [pz])
     go_wp2
     go_ret
     exact ⟨by rw [Hr9.out, d1.out, d2.out, d3.out]; rw [if_neg (by decide), if_pos (of_decide_eq_true d2.out)]; rfl, bstep HBT.out hHeld⟩
  ·have d1 := hide (show decide (0 < s1) = false from decide_eq_false p1)
   have d2 := hide (show decide (0 < s2) = false from decide_eq_false p2)
   go_enter Tryz.func181, Tryz.ntmps181
   go_upto_region 1 with fail
   go_cut [7, 8] (fun s7 s8 W => s7 = .bool false ∧ s8 = .bool false ∧ W.cell? ⟨w.heap.size, 0, none⟩ = some (.int .i64 ax) ∧ W.cell? ⟨w.heap.size, 1, none⟩ = some (.int .i64 ay) ∧ W.cell? ⟨w.heap.size, 2, none⟩ = some (.int .i64 bx) ∧ W.cell? ⟨w.heap.size, 3, none⟩ = some (.int .i64 bY) ∧ W.cell? ⟨w.heap.size + 1, 0, none⟩ = some (.int .i64 px) ∧ W.cell? ⟨w.heap.size + 1, 1, none⟩ = some (.int .i64 py) ∧ W.cell? ⟨w.heap.size + 2, 0, none⟩ = some (.int .i64 qx) ∧ W.cell? ⟨w.heap.size + 2, 1, none⟩ = some (.int .i64 qy) ∧ Below w.heap.size w W ∧ w.heap.size + 3 ≤ W.heap.size)
   case first =>
    obtain ⟨wT, hT⟩ : ∃ W, W = (((w.alloc (.cells #[.int .i64 ax, .int .i64 ay, .int .i64 bx, .int .i64 bY] 27)).alloc (.cells #[.int .i64 px, .int .i64 py] 25)).alloc (.cells #[.int .i64 qx, .int .i64 qy] 25)) := ⟨_, rfl⟩
    have m0 : wT.cell? ⟨w.heap.size, 0, none⟩ = some (.int .i64 ax) := by rw [hT]; go_simp
    have m1 : wT.cell? ⟨w.heap.size, 1, none⟩ = some (.int .i64 ay) := by rw [hT]; go_simp
    have m2 : wT.cell? ⟨w.heap.size, 2, none⟩ = some (.int .i64 bx) := by rw [hT]; go_simp
    have m3 : wT.cell? ⟨w.heap.size, 3, none⟩ = some (.int .i64 bY) := by rw [hT]; go_simp
    have m4 : wT.cell? ⟨w.heap.size + 1, 0, none⟩ = some (.int .i64 px) := by rw [hT]; go_simp
    have m5 : wT.cell? ⟨w.heap.size + 1, 1, none⟩ = some (.int .i64 py) := by rw [hT]; go_simp
    have m6 : wT.cell? ⟨w.heap.size + 1 + 1, 0, none⟩ = some (.int .i64 qx) := by rw [hT]; go_simp
    have m7 : wT.cell? ⟨w.heap.size + 1 + 1, 1, none⟩ = some (.int .i64 qy) := by rw [hT]; go_simp
    have HBT := hide (show Below w.heap.size w wT by rw [hT]; exact bwz)
    have zT2 : w.heap.size + 1 + 1 < wT.heap.size := by rw [hT]; simp
    have zT1 : w.heap.size + 1 < wT.heap.size := by omega
    have zT0 : w.heap.size < wT.heap.size := by omega
    rw [← hT]
    clear hT
    refine wp_region_held_drew (S := fun W => Below wT.heap.size wT W) (by kernel_rfl) (Below.drew (Below.refl _ _)) (fun hHeld => ?_)
    refine tkL 0 (some 9) rfl ?_; simp only [pz]
    refine tkL 1 (some 10) rfl ?_; simp only [pz]
    refine tkL 4 (some 13) rfl ?_; simp only [pz]
    refine tkL 5 (some 14) rfl ?_; simp only [pz]
    refine rd1 2 (some 11) rfl (fun K hK => ?_)
    go_simp; (first | (go_at_call 194; (with_reducible refine (K1.out _).mono ?_); rintro e w9 ⟨rfl, hb⟩) | (go_at_call 194; (with_reducible refine (K2.out _).mono ?_); rintro e w9 ⟨rfl, hb⟩))
    all_goals (try go_wp2_with fail)
    refine hK.out _ _ ?_ (fun hH2 => ?_)
    ·exact hhz
    clear hK K hHeld; (have hHeld := hH2); clear hH2; (try simp only [pz])
    refine tkN 3 (some 12) rfl ?_; simp only [pz]
    refine rd1 6 (some 15) rfl (fun K hK => ?_)
    go_simp; (first | (go_at_call 194; (with_reducible refine (K1.out _).mono ?_); rintro e w9 ⟨rfl, hb⟩) | (go_at_call 194; (with_reducible refine (K2.out _).mono ?_); rintro e w9 ⟨rfl, hb⟩))
    all_goals (try go_wp2_with fail)
    refine hK.out _ _ ?_ (fun hH2 => ?_)
    ·exact hhz
    clear hK K hHeld; (have hHeld := hH2); clear hH2; (try simp only [pz])
    refine tkN 7 (some 16) rfl ?_; simp only [pz]
    refine tkN 8 (some 7) rfl ?_; simp only [pz]
    refine tkN 9 (some 8) rfl ?_; simp only [pz]
    refine wpAnyH_done (by kernel_rfl) ?_ _; (try simp only [pz])
    go_wp2_with fail
    go_meet
    exact ⟨by simp [*], by simp [*], cell_later hHeld m0, cell_later hHeld m1, cell_later hHeld m2, cell_later hHeld m3, cell_later hHeld m4, cell_later hHeld m5, cell_later hHeld m6, cell_later hHeld m7, bstep HBT.out hHeld, (by have := hHeld.size; omega)⟩
   case rest =>
    obtain ⟨rfl, rfl, m0, m1, m2, m3, m4, m5, m6, m7, kB, kz⟩ := hcut
    have HBT := hide kB
    have zT2 : w.heap.size + 1 + 1 < wc.heap.size := by omega
    have zT1 : w.heap.size + 1 < wc.heap.size := by omega
    have zT0 : w.heap.size < wc.heap.size := by omega
    clear kB
    go_upto_region 2 with fail
    refine wp_region_held_drew (S := fun W => Below wc.heap.size wc W) (by kernel_rfl) (Below.drew (Below.refl _ _)) (fun hHeld => ?_)
    refine tkN 0 (some 17) rfl ?_; simp only [pz]
    refine tkN 1 (some 18) rfl ?_; simp only [pz]
    refine tkN 2 (some 19) rfl ?_; simp only [pz]
    refine tkN 3 (some 20) rfl ?_; simp only [pz]
    refine tkO 4 (some 21) rfl ?_; simp only [pz]
    refine tkO 5 (some 22) rfl ?_; simp only [pz]
    refine tkO 6 (some 23) rfl ?_; simp only [pz]
    refine tkO 7 (some 24) rfl ?_; simp only [pz]
    refine tkO 8 (some 25) rfl ?_; simp only [pz]
    refine tkO 9 (some 26) rfl ?_; simp only [pz]
    refine tkO 10 (some 27) rfl ?_; simp only [pz]
    refine tkO 11 (some 28) rfl ?_; simp only [pz]
    refine tkO 12 (some 29) rfl ?_; simp only [pz]
    refine tkO 13 (some 30) rfl ?_; simp only [pz]
    refine tkO 14 (some 31) rfl ?_; simp only [pz]
    refine tkO 15 (some 32) rfl ?_; simp only [pz]
    refine tkN 16 (some 33) rfl ?_; simp only [pz]
    refine wpAnyH_done (by kernel_rfl) ?_ _; (try simp only [pz])
    go_wp2
    go_ret
    exact ⟨by rw [Hr9.out, d1.out, d2.out]; rfl, bstep HBT.out hHeld⟩
end Go.Proofs.YtgcdgdnmcdffoaaGreatDoor
/- Walks: the way across a line (the reference), the place of a crossing, a quotient in steps of 1000; of both. -/
namespace Go.Proofs.YtgcdgdnmcdffoaaGreatDoor
open Go.RowKit

set_option maxRecDepth 100000 in
set_option maxHeartbeats 8000000 in
theorem spec_l05Way (ax ay bx bY px py qx qy : Int) (h1 : Sm ax) (h2 : Sm ay) (h3 : Sm bx) (h4 : Sm bY) (h5 : Sm px) (h6 : Sm py) (h7 : Sm qx) (h8 : Sm qy) (w : World) :
 Calls Tryz.prog 174 #[.agg #[.int .i64 ax, .int .i64 ay, .int .i64 bx, .int .i64 bY], .agg #[.int .i64 px, .int .i64 py], .agg #[.int .i64 qx, .int .i64 qy]] w fun e w' => e = .returned (.int .i64 (wayI ax ay bx bY px py qx qy)) ∧ Below w.heap.size w w' := by
 obtain ⟨r1, r2⟩ := sgn_m (crs px py qx qy ax ay) (crs px py qx qy bx bY)
 rw [wayI_s]
 have K1 := fun W => spec_l05Before ax ay bx bY px py _ rfl h1 h2 h3 h4 h5 h6 W
 have K2 := fun W => spec_l05Before ax ay bx bY qx qy _ rfl h1 h2 h3 h4 h7 h8 W
 have K3 := fun W => spec_l01Turn px py qx qy ax ay h5 h6 h7 h8 h1 h2 W
 have K4 := fun W => spec_l01Turn px py qx qy bx bY h5 h6 h7 h8 h3 h4 W
 generalize sgn (crs ax ay bx bY px py) = s1 at *
 generalize sgn (crs ax ay bx bY qx qy) = s2 at *
 generalize sgn (crs px py qx qy ax ay) = u1 at *
 generalize sgn (crs px py qx qy bx bY) = u2 at *
 have we : IntKind.i64.wrap (u1 * u2) = u1 * u2 := IntWalk.i64_in _ (by omega)
 obtain ⟨r9, hr9⟩ : ∃ r : Int, r = (if (decide (0 < s1) == decide (0 < s2)) || decide (0 < u1 * u2) then 0 else if 0 < s2 then 1 else -1) := ⟨_, rfl⟩
 rw [← hr9]
 have Hr9 := hide hr9
 clear h1 h2 h3 h4 h5 h6 h7 h8 hr9
 rcases (Classical.em (0 < s1)) with p1 | p1
 ·rcases (Classical.em (0 < s2)) with p2 | p2
  ·have d1 := hide (show decide (0 < s1) = true from decide_eq_true p1)
   have d2 := hide (show decide (0 < s2) = true from decide_eq_true p2)
   rw [d1.out] at K1
   rw [d2.out] at K2
   simp only [Bool.not_true] at K1 K2
   have K1 := hide K1
   have K2 := hide K2
   have K3 := hide K3
   have K4 := hide K4
   go_enter Tryz.func174, Tryz.ntmps174
   go_upto_region 1 with fail
   go_cut [27] (fun s7 W => s7 = .bool true ∧ W.cell? ⟨w.heap.size, 0, none⟩ = some (.int .i64 ax) ∧ W.cell? ⟨w.heap.size, 1, none⟩ = some (.int .i64 ay) ∧ W.cell? ⟨w.heap.size, 2, none⟩ = some (.int .i64 bx) ∧ W.cell? ⟨w.heap.size, 3, none⟩ = some (.int .i64 bY) ∧ W.cell? ⟨w.heap.size + 1, 0, none⟩ = some (.int .i64 px) ∧ W.cell? ⟨w.heap.size + 1, 1, none⟩ = some (.int .i64 py) ∧ W.cell? ⟨w.heap.size + 2, 0, none⟩ = some (.int .i64 qx) ∧ W.cell? ⟨w.heap.size + 2, 1, none⟩ = some (.int .i64 qy) ∧ Below w.heap.size w W ∧ w.heap.size + 3 ≤ W.heap.size)
   case first =>
    obtain ⟨wT, hT⟩ : ∃ W, W = (((w.alloc (.cells #[.int .i64 ax, .int .i64 ay, .int .i64 bx, .int .i64 bY] 27)).alloc (.cells #[.int .i64 px, .int .i64 py] 25)).alloc (.cells #[.int .i64 qx, .int .i64 qy] 25)) := ⟨_, rfl⟩
    have m0 : wT.cell? ⟨w.heap.size, 0, none⟩ = some (.int .i64 ax) := by rw [hT]; go_simp
    have m1 : wT.cell? ⟨w.heap.size, 1, none⟩ = some (.int .i64 ay) := by rw [hT]; go_simp
    have m2 : wT.cell? ⟨w.heap.size, 2, none⟩ = some (.int .i64 bx) := by rw [hT]; go_simp
    have m3 : wT.cell? ⟨w.heap.size, 3, none⟩ = some (.int .i64 bY) := by rw [hT]; go_simp
    have m4 : wT.cell? ⟨w.heap.size + 1, 0, none⟩ = some (.int .i64 px) := by rw [hT]; go_simp
    have m5 : wT.cell? ⟨w.heap.size + 1, 1, none⟩ = some (.int .i64 py) := by rw [hT]; go_simp
    have m6 : wT.cell? ⟨w.heap.size + 1 + 1, 0, none⟩ = some (.int .i64 qx) := by rw [hT]; go_simp
    have m7 : wT.cell? ⟨w.heap.size + 1 + 1, 1, none⟩ = some (.int .i64 qy) := by rw [hT]; go_simp
    have HBT := hide (show Below w.heap.size w wT by rw [hT]; exact bwz)
    have zT2 : w.heap.size + 1 + 1 < wT.heap.size := by rw [hT]; simp
    have zT1 : w.heap.size + 1 < wT.heap.size := by omega
    have zT0 : w.heap.size < wT.heap.size := by omega
    rw [← hT]
    clear hT
    refine wp_region_held_drew (S := fun W => Below wT.heap.size wT W) (by kernel_rfl) (Below.drew (Below.refl _ _)) (fun hHeld => ?_)
    refine tkL 0 (some 7) rfl ?_; simp only [pz]
    refine tkL 1 (some 8) rfl ?_; simp only [pz]
    refine tkL 3 (some 10) rfl ?_; simp only [pz]
    refine tkL 4 (some 11) rfl ?_; simp only [pz]
    refine rd1 2 (some 9) rfl (fun K hK => ?_)
    go_simp; (first | (go_at_call 190; (with_reducible refine (K1.out _).mono ?_); rintro e w9 ⟨rfl, hb⟩) | (go_at_call 190; (with_reducible refine (K2.out _).mono ?_); rintro e w9 ⟨rfl, hb⟩))
    all_goals (try go_wp2_with fail)
    refine hK.out _ _ ?_ (fun hH2 => ?_)
    ·exact hhz
    clear hK K hHeld; (have hHeld := hH2); clear hH2; (try simp only [pz])
    refine rd1 5 (some 12) rfl (fun K hK => ?_)
    go_simp; (first | (go_at_call 190; (with_reducible refine (K1.out _).mono ?_); rintro e w9 ⟨rfl, hb⟩) | (go_at_call 190; (with_reducible refine (K2.out _).mono ?_); rintro e w9 ⟨rfl, hb⟩))
    all_goals (try go_wp2_with fail)
    refine hK.out _ _ ?_ (fun hH2 => ?_)
    ·exact hhz
    clear hK K hHeld; (have hHeld := hH2); clear hH2; (try simp only [pz])
    refine tkN 6 (some 13) rfl ?_; simp only [pz]
    refine tkN 7 (some 14) rfl ?_; simp only [pz]
    refine tkO 8 (some 15) rfl ?_; simp only [pz]
    refine tkO 9 (some 16) rfl ?_; simp only [pz]
    refine tkO 10 (some 17) rfl ?_; simp only [pz]
    refine tkO 11 (some 18) rfl ?_; simp only [pz]
    refine tkO 12 (some 19) rfl ?_; simp only [pz]
    refine tkO 13 (some 20) rfl ?_; simp only [pz]
    refine tkO 14 (some 21) rfl ?_; simp only [pz]
    refine tkO 15 (some 22) rfl ?_; simp only [pz]
    refine tkO 16 (some 23) rfl ?_; simp only [pz]
    refine tkO 17 (some 24) rfl ?_; simp only [pz]
    refine tkO 18 (some 25) rfl ?_; simp only [pz]
    refine tkO 19 (some 26) rfl ?_; simp only [pz]
    refine tkN 20 (some 27) rfl ?_; simp only [pz]
    refine wpAnyH_done (by kernel_rfl) ?_ _; (try simp only [pz])
    go_wp2_with fail
    go_meet
    exact ⟨by first | rfl | (simp [*]; done), cell_later hHeld m0, cell_later hHeld m1, cell_later hHeld m2, cell_later hHeld m3, cell_later hHeld m4, cell_later hHeld m5, cell_later hHeld m6, cell_later hHeld m7, bstep HBT.out hHeld, (by have := hHeld.size; omega)⟩
   case rest =>
    obtain ⟨rfl, m0, m1, m2, m3, m4, m5, m6, m7, kB, kz⟩ := hcut
    have zT2 : w.heap.size + 1 + 1 < wc.heap.size := by omega
    have zT1 : w.heap.size + 1 < wc.heap.size := by omega
    have zT0 : w.heap.size < wc.heap.size := by omega
    go_wp2
    go_ret
    exact ⟨by rw [Hr9.out, d1.out, d2.out]; rfl, bwz⟩
  ·have d1 := hide (show decide (0 < s1) = true from decide_eq_true p1)
   have d2 := hide (show decide (0 < s2) = false from decide_eq_false p2)
   rw [d1.out] at K1
   rw [d2.out] at K2
   simp only [Bool.not_true, Bool.not_false] at K1 K2
   have K1 := hide K1
   have K2 := hide K2
   have K3 := hide K3
   have K4 := hide K4
   rcases (Classical.em (0 < u1 * u2)) with p3 | p3
   ·have d3 := hide (show decide (0 < u1 * u2) = true from decide_eq_true p3)
    go_enter Tryz.func174, Tryz.ntmps174
    go_upto_region 1 with fail
    go_cut [27] (fun s7 W => s7 = .bool true ∧ W.cell? ⟨w.heap.size, 0, none⟩ = some (.int .i64 ax) ∧ W.cell? ⟨w.heap.size, 1, none⟩ = some (.int .i64 ay) ∧ W.cell? ⟨w.heap.size, 2, none⟩ = some (.int .i64 bx) ∧ W.cell? ⟨w.heap.size, 3, none⟩ = some (.int .i64 bY) ∧ W.cell? ⟨w.heap.size + 1, 0, none⟩ = some (.int .i64 px) ∧ W.cell? ⟨w.heap.size + 1, 1, none⟩ = some (.int .i64 py) ∧ W.cell? ⟨w.heap.size + 2, 0, none⟩ = some (.int .i64 qx) ∧ W.cell? ⟨w.heap.size + 2, 1, none⟩ = some (.int .i64 qy) ∧ Below w.heap.size w W ∧ w.heap.size + 3 ≤ W.heap.size)
    case first =>
     obtain ⟨wT, hT⟩ : ∃ W, W = (((w.alloc (.cells #[.int .i64 ax, .int .i64 ay, .int .i64 bx, .int .i64 bY] 27)).alloc (.cells #[.int .i64 px, .int .i64 py] 25)).alloc (.cells #[.int .i64 qx, .int .i64 qy] 25)) := ⟨_, rfl⟩
     have m0 : wT.cell? ⟨w.heap.size, 0, none⟩ = some (.int .i64 ax) := by rw [hT]; go_simp
     have m1 : wT.cell? ⟨w.heap.size, 1, none⟩ = some (.int .i64 ay) := by rw [hT]; go_simp
     have m2 : wT.cell? ⟨w.heap.size, 2, none⟩ = some (.int .i64 bx) := by rw [hT]; go_simp
     have m3 : wT.cell? ⟨w.heap.size, 3, none⟩ = some (.int .i64 bY) := by rw [hT]; go_simp
     have m4 : wT.cell? ⟨w.heap.size + 1, 0, none⟩ = some (.int .i64 px) := by rw [hT]; go_simp
     have m5 : wT.cell? ⟨w.heap.size + 1, 1, none⟩ = some (.int .i64 py) := by rw [hT]; go_simp
     have m6 : wT.cell? ⟨w.heap.size + 1 + 1, 0, none⟩ = some (.int .i64 qx) := by rw [hT]; go_simp
     have m7 : wT.cell? ⟨w.heap.size + 1 + 1, 1, none⟩ = some (.int .i64 qy) := by rw [hT]; go_simp
     have HBT := hide (show Below w.heap.size w wT by rw [hT]; exact bwz)
     have zT2 : w.heap.size + 1 + 1 < wT.heap.size := by rw [hT]; simp
     have zT1 : w.heap.size + 1 < wT.heap.size := by omega
     have zT0 : w.heap.size < wT.heap.size := by omega
     rw [← hT]
     clear hT
     refine wp_region_held_drew (S := fun W => Below wT.heap.size wT W) (by kernel_rfl) (Below.drew (Below.refl _ _)) (fun hHeld => ?_)
     refine tkL 0 (some 7) rfl ?_; simp only [pz]
     refine tkL 1 (some 8) rfl ?_; simp only [pz]
     refine tkL 3 (some 10) rfl ?_; simp only [pz]
     refine tkL 4 (some 11) rfl ?_; simp only [pz]
     refine rd1 2 (some 9) rfl (fun K hK => ?_)
     go_simp; (first | (go_at_call 190; (with_reducible refine (K1.out _).mono ?_); rintro e w9 ⟨rfl, hb⟩) | (go_at_call 190; (with_reducible refine (K2.out _).mono ?_); rintro e w9 ⟨rfl, hb⟩))
     all_goals (try go_wp2_with fail)
     refine hK.out _ _ ?_ (fun hH2 => ?_)
     ·exact hhz
     clear hK K hHeld; (have hHeld := hH2); clear hH2; (try simp only [pz])
     refine rd1 5 (some 12) rfl (fun K hK => ?_)
     go_simp; (first | (go_at_call 190; (with_reducible refine (K1.out _).mono ?_); rintro e w9 ⟨rfl, hb⟩) | (go_at_call 190; (with_reducible refine (K2.out _).mono ?_); rintro e w9 ⟨rfl, hb⟩))
     all_goals (try go_wp2_with fail)
     refine hK.out _ _ ?_ (fun hH2 => ?_)
     ·exact hhz
     clear hK K hHeld; (have hHeld := hH2); clear hH2; (try simp only [pz])
     refine tkN 6 (some 13) rfl ?_; simp only [pz]
     refine tkN 7 (some 14) rfl ?_; simp only [pz]
     refine tkL 8 (some 15) rfl ?_; simp only [pz]
     refine tkL 9 (some 16) rfl ?_; simp only [pz]
     refine tkN 10 (some 17) rfl ?_; simp only [pz]
     refine tkL 11 (some 18) rfl ?_; simp only [pz]
     refine tkL 13 (some 20) rfl ?_; simp only [pz]
     refine tkL 14 (some 21) rfl ?_; simp only [pz]
     refine tkN 15 (some 22) rfl ?_; simp only [pz]
     refine tkL 16 (some 23) rfl ?_; simp only [pz]
     refine rd1 12 (some 19) rfl (fun K hK => ?_)
     go_simp; (first | (go_at_call 191; (with_reducible refine (K3.out _).mono ?_); rintro e w9 ⟨rfl, hb⟩) | (go_at_call 191; (with_reducible refine (K4.out _).mono ?_); rintro e w9 ⟨rfl, hb⟩))
     all_goals (try go_wp2_with fail)
     refine hK.out _ _ ?_ (fun hH2 => ?_)
     ·exact hhz
     clear hK K hHeld; (have hHeld := hH2); clear hH2; (try simp only [pz])
     refine rd1 17 (some 24) rfl (fun K hK => ?_)
     go_simp; (first | (go_at_call 191; (with_reducible refine (K3.out _).mono ?_); rintro e w9 ⟨rfl, hb⟩) | (go_at_call 191; (with_reducible refine (K4.out _).mono ?_); rintro e w9 ⟨rfl, hb⟩))
     all_goals (try go_wp2_with fail)
     refine hK.out _ _ ?_ (fun hH2 => ?_)
     ·exact hhz
     clear hK K hHeld; (have hHeld := hH2); clear hH2; (try simp only [pz])
     refine tkN 18 (some 25) rfl ?_; simp only [pz]
     refine tkN 19 (some 26) rfl ?_; simp only [pz]
     refine tkN 20 (some 27) rfl ?_; simp only [pz]
     refine wpAnyH_done (by kernel_rfl) ?_ _; (try simp only [pz])
     go_wp2_with fail
     go_meet
     exact ⟨by first | rfl | (simp [*]; done), cell_later hHeld m0, cell_later hHeld m1, cell_later hHeld m2, cell_later hHeld m3, cell_later hHeld m4, cell_later hHeld m5, cell_later hHeld m6, cell_later hHeld m7, bstep HBT.out hHeld, (by have := hHeld.size; omega)⟩
    case rest =>
     obtain ⟨rfl, m0, m1, m2, m3, m4, m5, m6, m7, kB, kz⟩ := hcut
     have zT2 : w.heap.size + 1 + 1 < wc.heap.size := by omega
     have zT1 : w.heap.size + 1 < wc.heap.size := by omega
     have zT0 : w.heap.size < wc.heap.size := by omega
     go_wp2
     go_ret
     exact ⟨by rw [Hr9.out, d1.out, d2.out, d3.out]; rfl, bwz⟩
   ·have d3 := hide (show decide (0 < u1 * u2) = false from decide_eq_false p3)
    go_enter Tryz.func174, Tryz.ntmps174
    go_upto_region 1 with fail
    go_cut [27] (fun s7 W => s7 = .bool false ∧ W.cell? ⟨w.heap.size, 0, none⟩ = some (.int .i64 ax) ∧ W.cell? ⟨w.heap.size, 1, none⟩ = some (.int .i64 ay) ∧ W.cell? ⟨w.heap.size, 2, none⟩ = some (.int .i64 bx) ∧ W.cell? ⟨w.heap.size, 3, none⟩ = some (.int .i64 bY) ∧ W.cell? ⟨w.heap.size + 1, 0, none⟩ = some (.int .i64 px) ∧ W.cell? ⟨w.heap.size + 1, 1, none⟩ = some (.int .i64 py) ∧ W.cell? ⟨w.heap.size + 2, 0, none⟩ = some (.int .i64 qx) ∧ W.cell? ⟨w.heap.size + 2, 1, none⟩ = some (.int .i64 qy) ∧ Below w.heap.size w W ∧ w.heap.size + 3 ≤ W.heap.size)
    case first =>
     obtain ⟨wT, hT⟩ : ∃ W, W = (((w.alloc (.cells #[.int .i64 ax, .int .i64 ay, .int .i64 bx, .int .i64 bY] 27)).alloc (.cells #[.int .i64 px, .int .i64 py] 25)).alloc (.cells #[.int .i64 qx, .int .i64 qy] 25)) := ⟨_, rfl⟩
     have m0 : wT.cell? ⟨w.heap.size, 0, none⟩ = some (.int .i64 ax) := by rw [hT]; go_simp
     have m1 : wT.cell? ⟨w.heap.size, 1, none⟩ = some (.int .i64 ay) := by rw [hT]; go_simp
     have m2 : wT.cell? ⟨w.heap.size, 2, none⟩ = some (.int .i64 bx) := by rw [hT]; go_simp
     have m3 : wT.cell? ⟨w.heap.size, 3, none⟩ = some (.int .i64 bY) := by rw [hT]; go_simp
     have m4 : wT.cell? ⟨w.heap.size + 1, 0, none⟩ = some (.int .i64 px) := by rw [hT]; go_simp
     have m5 : wT.cell? ⟨w.heap.size + 1, 1, none⟩ = some (.int .i64 py) := by rw [hT]; go_simp
     have m6 : wT.cell? ⟨w.heap.size + 1 + 1, 0, none⟩ = some (.int .i64 qx) := by rw [hT]; go_simp
     have m7 : wT.cell? ⟨w.heap.size + 1 + 1, 1, none⟩ = some (.int .i64 qy) := by rw [hT]; go_simp
     have HBT := hide (show Below w.heap.size w wT by rw [hT]; exact bwz)
     have zT2 : w.heap.size + 1 + 1 < wT.heap.size := by rw [hT]; simp
     have zT1 : w.heap.size + 1 < wT.heap.size := by omega
     have zT0 : w.heap.size < wT.heap.size := by omega
     rw [← hT]
     clear hT
     refine wp_region_held_drew (S := fun W => Below wT.heap.size wT W) (by kernel_rfl) (Below.drew (Below.refl _ _)) (fun hHeld => ?_)
     refine tkL 0 (some 7) rfl ?_; simp only [pz]
     refine tkL 1 (some 8) rfl ?_; simp only [pz]
     refine tkL 3 (some 10) rfl ?_; simp only [pz]
     refine tkL 4 (some 11) rfl ?_; simp only [pz]
     refine rd1 2 (some 9) rfl (fun K hK => ?_)
     go_simp; (first | (go_at_call 190; (with_reducible refine (K1.out _).mono ?_); rintro e w9 ⟨rfl, hb⟩) | (go_at_call 190; (with_reducible refine (K2.out _).mono ?_); rintro e w9 ⟨rfl, hb⟩))
     all_goals (try go_wp2_with fail)
     refine hK.out _ _ ?_ (fun hH2 => ?_)
     ·exact hhz
     clear hK K hHeld; (have hHeld := hH2); clear hH2; (try simp only [pz])
     refine rd1 5 (some 12) rfl (fun K hK => ?_)
     go_simp; (first | (go_at_call 190; (with_reducible refine (K1.out _).mono ?_); rintro e w9 ⟨rfl, hb⟩) | (go_at_call 190; (with_reducible refine (K2.out _).mono ?_); rintro e w9 ⟨rfl, hb⟩))
     all_goals (try go_wp2_with fail)
     refine hK.out _ _ ?_ (fun hH2 => ?_)
     ·exact hhz
     clear hK K hHeld; (have hHeld := hH2); clear hH2; (try simp only [pz])
     refine tkN 6 (some 13) rfl ?_; simp only [pz]
     refine tkN 7 (some 14) rfl ?_; simp only [pz]
     refine tkL 8 (some 15) rfl ?_; simp only [pz]
     refine tkL 9 (some 16) rfl ?_; simp only [pz]
     refine tkN 10 (some 17) rfl ?_; simp only [pz]
     refine tkL 11 (some 18) rfl ?_; simp only [pz]
     refine tkL 13 (some 20) rfl ?_; simp only [pz]
     refine tkL 14 (some 21) rfl ?_; simp only [pz]
     refine tkN 15 (some 22) rfl ?_; simp only [pz]
     refine tkL 16 (some 23) rfl ?_; simp only [pz]
     refine rd1 12 (some 19) rfl (fun K hK => ?_)
     go_simp; (first | (go_at_call 191; (with_reducible refine (K3.out _).mono ?_); rintro e w9 ⟨rfl, hb⟩) | (go_at_call 191; (with_reducible refine (K4.out _).mono ?_); rintro e w9 ⟨rfl, hb⟩))
     all_goals (try go_wp2_with fail)
     refine hK.out _ _ ?_ (fun hH2 => ?_)
     ·exact hhz
     clear hK K hHeld; (have hHeld := hH2); clear hH2; (try simp only [pz])
     refine rd1 17 (some 24) rfl (fun K hK => ?_)
     go_simp; (first | (go_at_call 191; (with_reducible refine (K3.out _).mono ?_); rintro e w9 ⟨rfl, hb⟩) | (go_at_call 191; (with_reducible refine (K4.out _).mono ?_); rintro e w9 ⟨rfl, hb⟩))
     all_goals (try go_wp2_with fail)
     refine hK.out _ _ ?_ (fun hH2 => ?_)
     ·exact hhz
     clear hK K hHeld; (have hHeld := hH2); clear hH2; (try simp only [pz])
     refine tkN 18 (some 25) rfl ?_; simp only [pz]
     refine tkN 19 (some 26) rfl ?_; simp only [pz]
     refine tkN 20 (some 27) rfl ?_; simp only [pz]
     refine wpAnyH_done (by kernel_rfl) ?_ _; (try simp only [pz])
     go_wp2_with fail
     go_meet
     exact ⟨by first | rfl | (simp [*]; done), cell_later hHeld m0, cell_later hHeld m1, cell_later hHeld m2, cell_later hHeld m3, cell_later hHeld m4, cell_later hHeld m5, cell_later hHeld m6, cell_later hHeld m7, bstep HBT.out hHeld, (by have := hHeld.size; omega)⟩
    case rest =>
     obtain ⟨rfl, m0, m1, m2, m3, m4, m5, m6, m7, kB, kz⟩ := hcut
     have zT2 : w.heap.size + 1 + 1 < wc.heap.size := by omega
     have zT1 : w.heap.size + 1 < wc.heap.size := by omega
     have zT0 : w.heap.size < wc.heap.size := by omega
     go_wp2_with (go_at_call 190; (with_reducible refine (K1.out _).mono ?_); rintro e w9 ⟨rfl, hb⟩)
     go_ret
     exact ⟨by rw [Hr9.out, d1.out, d2.out, d3.out]; rw [if_neg (by decide), if_neg (of_decide_eq_false d2.out)]; rfl, bwz⟩
 ·rcases (Classical.em (0 < s2)) with p2 | p2
  ·have d1 := hide (show decide (0 < s1) = false from decide_eq_false p1)
   have d2 := hide (show decide (0 < s2) = true from decide_eq_true p2)
   rw [d1.out] at K1
   rw [d2.out] at K2
   simp only [Bool.not_true, Bool.not_false] at K1 K2
   have K1 := hide K1
   have K2 := hide K2
   have K3 := hide K3
   have K4 := hide K4
   rcases (Classical.em (0 < u1 * u2)) with p3 | p3
   ·have d3 := hide (show decide (0 < u1 * u2) = true from decide_eq_true p3)
    go_enter Tryz.func174, Tryz.ntmps174
    go_upto_region 1 with fail
    go_cut [27] (fun s7 W => s7 = .bool true ∧ W.cell? ⟨w.heap.size, 0, none⟩ = some (.int .i64 ax) ∧ W.cell? ⟨w.heap.size, 1, none⟩ = some (.int .i64 ay) ∧ W.cell? ⟨w.heap.size, 2, none⟩ = some (.int .i64 bx) ∧ W.cell? ⟨w.heap.size, 3, none⟩ = some (.int .i64 bY) ∧ W.cell? ⟨w.heap.size + 1, 0, none⟩ = some (.int .i64 px) ∧ W.cell? ⟨w.heap.size + 1, 1, none⟩ = some (.int .i64 py) ∧ W.cell? ⟨w.heap.size + 2, 0, none⟩ = some (.int .i64 qx) ∧ W.cell? ⟨w.heap.size + 2, 1, none⟩ = some (.int .i64 qy) ∧ Below w.heap.size w W ∧ w.heap.size + 3 ≤ W.heap.size)
    case first =>
     obtain ⟨wT, hT⟩ : ∃ W, W = (((w.alloc (.cells #[.int .i64 ax, .int .i64 ay, .int .i64 bx, .int .i64 bY] 27)).alloc (.cells #[.int .i64 px, .int .i64 py] 25)).alloc (.cells #[.int .i64 qx, .int .i64 qy] 25)) := ⟨_, rfl⟩
     have m0 : wT.cell? ⟨w.heap.size, 0, none⟩ = some (.int .i64 ax) := by rw [hT]; go_simp
     have m1 : wT.cell? ⟨w.heap.size, 1, none⟩ = some (.int .i64 ay) := by rw [hT]; go_simp
     have m2 : wT.cell? ⟨w.heap.size, 2, none⟩ = some (.int .i64 bx) := by rw [hT]; go_simp
     have m3 : wT.cell? ⟨w.heap.size, 3, none⟩ = some (.int .i64 bY) := by rw [hT]; go_simp
     have m4 : wT.cell? ⟨w.heap.size + 1, 0, none⟩ = some (.int .i64 px) := by rw [hT]; go_simp
     have m5 : wT.cell? ⟨w.heap.size + 1, 1, none⟩ = some (.int .i64 py) := by rw [hT]; go_simp
     have m6 : wT.cell? ⟨w.heap.size + 1 + 1, 0, none⟩ = some (.int .i64 qx) := by rw [hT]; go_simp
     have m7 : wT.cell? ⟨w.heap.size + 1 + 1, 1, none⟩ = some (.int .i64 qy) := by rw [hT]; go_simp
     have HBT := hide (show Below w.heap.size w wT by rw [hT]; exact bwz)
     have zT2 : w.heap.size + 1 + 1 < wT.heap.size := by rw [hT]; simp
     have zT1 : w.heap.size + 1 < wT.heap.size := by omega
     have zT0 : w.heap.size < wT.heap.size := by omega
     rw [← hT]
     clear hT
     refine wp_region_held_drew (S := fun W => Below wT.heap.size wT W) (by kernel_rfl) (Below.drew (Below.refl _ _)) (fun hHeld => ?_)
     refine tkL 0 (some 7) rfl ?_; simp only [pz]
     refine tkL 1 (some 8) rfl ?_; simp only [pz]
     refine tkL 3 (some 10) rfl ?_; simp only [pz]
     refine tkL 4 (some 11) rfl ?_; simp only [pz]
     refine rd1 2 (some 9) rfl (fun K hK => ?_)
     go_simp; (first | (go_at_call 190; (with_reducible refine (K1.out _).mono ?_); rintro e w9 ⟨rfl, hb⟩) | (go_at_call 190; (with_reducible refine (K2.out _).mono ?_); rintro e w9 ⟨rfl, hb⟩))
     all_goals (try go_wp2_with fail)
     refine hK.out _ _ ?_ (fun hH2 => ?_)
     ·exact hhz
     clear hK K hHeld; (have hHeld := hH2); clear hH2; (try simp only [pz])
     refine rd1 5 (some 12) rfl (fun K hK => ?_)
     go_simp; (first | (go_at_call 190; (with_reducible refine (K1.out _).mono ?_); rintro e w9 ⟨rfl, hb⟩) | (go_at_call 190; (with_reducible refine (K2.out _).mono ?_); rintro e w9 ⟨rfl, hb⟩))
     all_goals (try go_wp2_with fail)
     refine hK.out _ _ ?_ (fun hH2 => ?_)
     ·exact hhz
     clear hK K hHeld; (have hHeld := hH2); clear hH2; (try simp only [pz])
     refine tkN 6 (some 13) rfl ?_; simp only [pz]
     refine tkN 7 (some 14) rfl ?_; simp only [pz]
     refine tkL 8 (some 15) rfl ?_; simp only [pz]
     refine tkL 9 (some 16) rfl ?_; simp only [pz]
     refine tkN 10 (some 17) rfl ?_; simp only [pz]
     refine tkL 11 (some 18) rfl ?_; simp only [pz]
     refine tkL 13 (some 20) rfl ?_; simp only [pz]
     refine tkL 14 (some 21) rfl ?_; simp only [pz]
     refine tkN 15 (some 22) rfl ?_; simp only [pz]
     refine tkL 16 (some 23) rfl ?_; simp only [pz]
     refine rd1 12 (some 19) rfl (fun K hK => ?_)
     go_simp; (first | (go_at_call 191; (with_reducible refine (K3.out _).mono ?_); rintro e w9 ⟨rfl, hb⟩) | (go_at_call 191; (with_reducible refine (K4.out _).mono ?_); rintro e w9 ⟨rfl, hb⟩))
     all_goals (try go_wp2_with fail)
     refine hK.out _ _ ?_ (fun hH2 => ?_)
     ·exact hhz
     clear hK K hHeld; (have hHeld := hH2); clear hH2; (try simp only [pz])
     refine rd1 17 (some 24) rfl (fun K hK => ?_)
     go_simp; (first | (go_at_call 191; (with_reducible refine (K3.out _).mono ?_); rintro e w9 ⟨rfl, hb⟩) | (go_at_call 191; (with_reducible refine (K4.out _).mono ?_); rintro e w9 ⟨rfl, hb⟩))
     all_goals (try go_wp2_with fail)
     refine hK.out _ _ ?_ (fun hH2 => ?_)
     ·exact hhz
     clear hK K hHeld; (have hHeld := hH2); clear hH2; (try simp only [pz])
     refine tkN 18 (some 25) rfl ?_; simp only [pz]
     refine tkN 19 (some 26) rfl ?_; simp only [pz]
     refine tkN 20 (some 27) rfl ?_; simp only [pz]
     refine wpAnyH_done (by kernel_rfl) ?_ _; (try simp only [pz])
     go_wp2_with fail
     go_meet
     exact ⟨by first | rfl | (simp [*]; done), cell_later hHeld m0, cell_later hHeld m1, cell_later hHeld m2, cell_later hHeld m3, cell_later hHeld m4, cell_later hHeld m5, cell_later hHeld m6, cell_later hHeld m7, bstep HBT.out hHeld, (by have := hHeld.size; omega)⟩
    case rest =>
     obtain ⟨rfl, m0, m1, m2, m3, m4, m5, m6, m7, kB, kz⟩ := hcut
     have zT2 : w.heap.size + 1 + 1 < wc.heap.size := by omega
     have zT1 : w.heap.size + 1 < wc.heap.size := by omega
     have zT0 : w.heap.size < wc.heap.size := by omega
     go_wp2
     go_ret
     exact ⟨by rw [Hr9.out, d1.out, d2.out, d3.out]; rfl, bwz⟩
   ·have d3 := hide (show decide (0 < u1 * u2) = false from decide_eq_false p3)
    go_enter Tryz.func174, Tryz.ntmps174
    go_upto_region 1 with fail
    go_cut [27] (fun s7 W => s7 = .bool false ∧ W.cell? ⟨w.heap.size, 0, none⟩ = some (.int .i64 ax) ∧ W.cell? ⟨w.heap.size, 1, none⟩ = some (.int .i64 ay) ∧ W.cell? ⟨w.heap.size, 2, none⟩ = some (.int .i64 bx) ∧ W.cell? ⟨w.heap.size, 3, none⟩ = some (.int .i64 bY) ∧ W.cell? ⟨w.heap.size + 1, 0, none⟩ = some (.int .i64 px) ∧ W.cell? ⟨w.heap.size + 1, 1, none⟩ = some (.int .i64 py) ∧ W.cell? ⟨w.heap.size + 2, 0, none⟩ = some (.int .i64 qx) ∧ W.cell? ⟨w.heap.size + 2, 1, none⟩ = some (.int .i64 qy) ∧ Below w.heap.size w W ∧ w.heap.size + 3 ≤ W.heap.size)
    case first =>
     obtain ⟨wT, hT⟩ : ∃ W, W = (((w.alloc (.cells #[.int .i64 ax, .int .i64 ay, .int .i64 bx, .int .i64 bY] 27)).alloc (.cells #[.int .i64 px, .int .i64 py] 25)).alloc (.cells #[.int .i64 qx, .int .i64 qy] 25)) := ⟨_, rfl⟩
     have m0 : wT.cell? ⟨w.heap.size, 0, none⟩ = some (.int .i64 ax) := by rw [hT]; go_simp
     have m1 : wT.cell? ⟨w.heap.size, 1, none⟩ = some (.int .i64 ay) := by rw [hT]; go_simp
     have m2 : wT.cell? ⟨w.heap.size, 2, none⟩ = some (.int .i64 bx) := by rw [hT]; go_simp
     have m3 : wT.cell? ⟨w.heap.size, 3, none⟩ = some (.int .i64 bY) := by rw [hT]; go_simp
     have m4 : wT.cell? ⟨w.heap.size + 1, 0, none⟩ = some (.int .i64 px) := by rw [hT]; go_simp
     have m5 : wT.cell? ⟨w.heap.size + 1, 1, none⟩ = some (.int .i64 py) := by rw [hT]; go_simp
     have m6 : wT.cell? ⟨w.heap.size + 1 + 1, 0, none⟩ = some (.int .i64 qx) := by rw [hT]; go_simp
     have m7 : wT.cell? ⟨w.heap.size + 1 + 1, 1, none⟩ = some (.int .i64 qy) := by rw [hT]; go_simp
     have HBT := hide (show Below w.heap.size w wT by rw [hT]; exact bwz)
     have zT2 : w.heap.size + 1 + 1 < wT.heap.size := by rw [hT]; simp
     have zT1 : w.heap.size + 1 < wT.heap.size := by omega
     have zT0 : w.heap.size < wT.heap.size := by omega
     rw [← hT]
     clear hT
     refine wp_region_held_drew (S := fun W => Below wT.heap.size wT W) (by kernel_rfl) (Below.drew (Below.refl _ _)) (fun hHeld => ?_)
     refine tkL 0 (some 7) rfl ?_; simp only [pz]
     refine tkL 1 (some 8) rfl ?_; simp only [pz]
     refine tkL 3 (some 10) rfl ?_; simp only [pz]
     refine tkL 4 (some 11) rfl ?_; simp only [pz]
     refine rd1 2 (some 9) rfl (fun K hK => ?_)
     go_simp; (first | (go_at_call 190; (with_reducible refine (K1.out _).mono ?_); rintro e w9 ⟨rfl, hb⟩) | (go_at_call 190; (with_reducible refine (K2.out _).mono ?_); rintro e w9 ⟨rfl, hb⟩))
     all_goals (try go_wp2_with fail)
     refine hK.out _ _ ?_ (fun hH2 => ?_)
     ·exact hhz
     clear hK K hHeld; (have hHeld := hH2); clear hH2; (try simp only [pz])
     refine rd1 5 (some 12) rfl (fun K hK => ?_)
     go_simp; (first | (go_at_call 190; (with_reducible refine (K1.out _).mono ?_); rintro e w9 ⟨rfl, hb⟩) | (go_at_call 190; (with_reducible refine (K2.out _).mono ?_); rintro e w9 ⟨rfl, hb⟩))
     all_goals (try go_wp2_with fail)
     refine hK.out _ _ ?_ (fun hH2 => ?_)
     ·exact hhz
     clear hK K hHeld; (have hHeld := hH2); clear hH2; (try simp only [pz])
     refine tkN 6 (some 13) rfl ?_; simp only [pz]
     refine tkN 7 (some 14) rfl ?_; simp only [pz]
     refine tkL 8 (some 15) rfl ?_; simp only [pz]
     refine tkL 9 (some 16) rfl ?_; simp only [pz]
     refine tkN 10 (some 17) rfl ?_; simp only [pz]
     refine tkL 11 (some 18) rfl ?_; simp only [pz]
     refine tkL 13 (some 20) rfl ?_; simp only [pz]
     refine tkL 14 (some 21) rfl ?_; simp only [pz]
     refine tkN 15 (some 22) rfl ?_; simp only [pz]
     refine tkL 16 (some 23) rfl ?_; simp only [pz]
     refine rd1 12 (some 19) rfl (fun K hK => ?_)
     go_simp; (first | (go_at_call 191; (with_reducible refine (K3.out _).mono ?_); rintro e w9 ⟨rfl, hb⟩) | (go_at_call 191; (with_reducible refine (K4.out _).mono ?_); rintro e w9 ⟨rfl, hb⟩))
     all_goals (try go_wp2_with fail)
     refine hK.out _ _ ?_ (fun hH2 => ?_)
     ·exact hhz
     clear hK K hHeld; (have hHeld := hH2); clear hH2; (try simp only [pz])
     refine rd1 17 (some 24) rfl (fun K hK => ?_)
     go_simp; (first | (go_at_call 191; (with_reducible refine (K3.out _).mono ?_); rintro e w9 ⟨rfl, hb⟩) | (go_at_call 191; (with_reducible refine (K4.out _).mono ?_); rintro e w9 ⟨rfl, hb⟩))
     all_goals (try go_wp2_with fail)
     refine hK.out _ _ ?_ (fun hH2 => ?_)
     ·exact hhz
     clear hK K hHeld; (have hHeld := hH2); clear hH2; (try simp only [pz])
     refine tkN 18 (some 25) rfl ?_; simp only [pz]
     refine tkN 19 (some 26) rfl ?_; simp only [pz]
     refine tkN 20 (some 27) rfl ?_; simp only [pz]
     refine wpAnyH_done (by kernel_rfl) ?_ _; (try simp only [pz])
     go_wp2_with fail
     go_meet
     exact ⟨by first | rfl | (simp [*]; done), cell_later hHeld m0, cell_later hHeld m1, cell_later hHeld m2, cell_later hHeld m3, cell_later hHeld m4, cell_later hHeld m5, cell_later hHeld m6, cell_later hHeld m7, bstep HBT.out hHeld, (by have := hHeld.size; omega)⟩
    case rest =>
     obtain ⟨rfl, m0, m1, m2, m3, m4, m5, m6, m7, kB, kz⟩ := hcut
     have zT2 : w.heap.size + 1 + 1 < wc.heap.size := by omega
     have zT1 : w.heap.size + 1 < wc.heap.size := by omega
     have zT0 : w.heap.size < wc.heap.size := by omega
     go_wp2_with (go_at_call 190; (with_reducible refine (K1.out _).mono ?_); rintro e w9 ⟨rfl, hb⟩)
     go_ret
     exact ⟨by rw [Hr9.out, d1.out, d2.out, d3.out]; rw [if_neg (by decide), if_pos (of_decide_eq_true d2.out)]; rfl, bwz⟩
  ·have d1 := hide (show decide (0 < s1) = false from decide_eq_false p1)
   have d2 := hide (show decide (0 < s2) = false from decide_eq_false p2)
   rw [d1.out] at K1
   rw [d2.out] at K2
   simp only [Bool.not_false] at K1 K2
   have K1 := hide K1
   have K2 := hide K2
   have K3 := hide K3
   have K4 := hide K4
   go_enter Tryz.func174, Tryz.ntmps174
   go_upto_region 1 with fail
   go_cut [27] (fun s7 W => s7 = .bool true ∧ W.cell? ⟨w.heap.size, 0, none⟩ = some (.int .i64 ax) ∧ W.cell? ⟨w.heap.size, 1, none⟩ = some (.int .i64 ay) ∧ W.cell? ⟨w.heap.size, 2, none⟩ = some (.int .i64 bx) ∧ W.cell? ⟨w.heap.size, 3, none⟩ = some (.int .i64 bY) ∧ W.cell? ⟨w.heap.size + 1, 0, none⟩ = some (.int .i64 px) ∧ W.cell? ⟨w.heap.size + 1, 1, none⟩ = some (.int .i64 py) ∧ W.cell? ⟨w.heap.size + 2, 0, none⟩ = some (.int .i64 qx) ∧ W.cell? ⟨w.heap.size + 2, 1, none⟩ = some (.int .i64 qy) ∧ Below w.heap.size w W ∧ w.heap.size + 3 ≤ W.heap.size)
   case first =>
    obtain ⟨wT, hT⟩ : ∃ W, W = (((w.alloc (.cells #[.int .i64 ax, .int .i64 ay, .int .i64 bx, .int .i64 bY] 27)).alloc (.cells #[.int .i64 px, .int .i64 py] 25)).alloc (.cells #[.int .i64 qx, .int .i64 qy] 25)) := ⟨_, rfl⟩
    have m0 : wT.cell? ⟨w.heap.size, 0, none⟩ = some (.int .i64 ax) := by rw [hT]; go_simp
    have m1 : wT.cell? ⟨w.heap.size, 1, none⟩ = some (.int .i64 ay) := by rw [hT]; go_simp
    have m2 : wT.cell? ⟨w.heap.size, 2, none⟩ = some (.int .i64 bx) := by rw [hT]; go_simp
    have m3 : wT.cell? ⟨w.heap.size, 3, none⟩ = some (.int .i64 bY) := by rw [hT]; go_simp
    have m4 : wT.cell? ⟨w.heap.size + 1, 0, none⟩ = some (.int .i64 px) := by rw [hT]; go_simp
    have m5 : wT.cell? ⟨w.heap.size + 1, 1, none⟩ = some (.int .i64 py) := by rw [hT]; go_simp
    have m6 : wT.cell? ⟨w.heap.size + 1 + 1, 0, none⟩ = some (.int .i64 qx) := by rw [hT]; go_simp
    have m7 : wT.cell? ⟨w.heap.size + 1 + 1, 1, none⟩ = some (.int .i64 qy) := by rw [hT]; go_simp
    have HBT := hide (show Below w.heap.size w wT by rw [hT]; exact bwz)
    have zT2 : w.heap.size + 1 + 1 < wT.heap.size := by rw [hT]; simp
    have zT1 : w.heap.size + 1 < wT.heap.size := by omega
    have zT0 : w.heap.size < wT.heap.size := by omega
    rw [← hT]
    clear hT
    refine wp_region_held_drew (S := fun W => Below wT.heap.size wT W) (by kernel_rfl) (Below.drew (Below.refl _ _)) (fun hHeld => ?_)
    refine tkL 0 (some 7) rfl ?_; simp only [pz]
    refine tkL 1 (some 8) rfl ?_; simp only [pz]
    refine tkL 3 (some 10) rfl ?_; simp only [pz]
    refine tkL 4 (some 11) rfl ?_; simp only [pz]
    refine rd1 2 (some 9) rfl (fun K hK => ?_)
    go_simp; (first | (go_at_call 190; (with_reducible refine (K1.out _).mono ?_); rintro e w9 ⟨rfl, hb⟩) | (go_at_call 190; (with_reducible refine (K2.out _).mono ?_); rintro e w9 ⟨rfl, hb⟩))
    all_goals (try go_wp2_with fail)
    refine hK.out _ _ ?_ (fun hH2 => ?_)
    ·exact hhz
    clear hK K hHeld; (have hHeld := hH2); clear hH2; (try simp only [pz])
    refine rd1 5 (some 12) rfl (fun K hK => ?_)
    go_simp; (first | (go_at_call 190; (with_reducible refine (K1.out _).mono ?_); rintro e w9 ⟨rfl, hb⟩) | (go_at_call 190; (with_reducible refine (K2.out _).mono ?_); rintro e w9 ⟨rfl, hb⟩))
    all_goals (try go_wp2_with fail)
    refine hK.out _ _ ?_ (fun hH2 => ?_)
    ·exact hhz
    clear hK K hHeld; (have hHeld := hH2); clear hH2; (try simp only [pz])
    refine tkN 6 (some 13) rfl ?_; simp only [pz]
    refine tkN 7 (some 14) rfl ?_; simp only [pz]
    refine tkO 8 (some 15) rfl ?_; simp only [pz]
    refine tkO 9 (some 16) rfl ?_; simp only [pz]
    refine tkO 10 (some 17) rfl ?_; simp only [pz]
    refine tkO 11 (some 18) rfl ?_; simp only [pz]
    refine tkO 12 (some 19) rfl ?_; simp only [pz]
    refine tkO 13 (some 20) rfl ?_; simp only [pz]
    refine tkO 14 (some 21) rfl ?_; simp only [pz]
    refine tkO 15 (some 22) rfl ?_; simp only [pz]
    refine tkO 16 (some 23) rfl ?_; simp only [pz]
    refine tkO 17 (some 24) rfl ?_; simp only [pz]
    refine tkO 18 (some 25) rfl ?_; simp only [pz]
    refine tkO 19 (some 26) rfl ?_; simp only [pz]
    refine tkN 20 (some 27) rfl ?_; simp only [pz]
    refine wpAnyH_done (by kernel_rfl) ?_ _; (try simp only [pz])
    go_wp2_with fail
    go_meet
    exact ⟨by first | rfl | (simp [*]; done), cell_later hHeld m0, cell_later hHeld m1, cell_later hHeld m2, cell_later hHeld m3, cell_later hHeld m4, cell_later hHeld m5, cell_later hHeld m6, cell_later hHeld m7, bstep HBT.out hHeld, (by have := hHeld.size; omega)⟩
   case rest =>
    obtain ⟨rfl, m0, m1, m2, m3, m4, m5, m6, m7, kB, kz⟩ := hcut
    have zT2 : w.heap.size + 1 + 1 < wc.heap.size := by omega
    have zT1 : w.heap.size + 1 < wc.heap.size := by omega
    have zT0 : w.heap.size < wc.heap.size := by omega
    go_wp2
    go_ret
    exact ⟨by rw [Hr9.out, d1.out, d2.out]; rfl, bwz⟩
/-- What is known where a line is crossed. -/
theorem cp_pre {ax ay bx bY px py qx qy : Int} (hl : isSg ax ay bx bY = true) (hp : isPt px py = true) (hq : isPt qx qy = true) :
 -8000000000000 ≤ crs ax ay bx bY px py ∧ crs ax ay bx bY px py ≤ 8000000000000 ∧ -8000000000000 ≤ crs ax ay bx bY qx qy ∧ crs ax ay bx bY qx qy ≤ 8000000000000 := by
 obtain ⟨ha, hb, _⟩ := isSg_t hl
 obtain ⟨_, _, c0, c1⟩ := pt_bd3 ha hb hp
 obtain ⟨_, _, c2, c3⟩ := pt_bd3 ha hb hq
 omega
theorem way_ne {ax ay bx bY px py qx qy : Int} (h : ¬ wayI ax ay bx bY px py qx qy = 0) : (px == qx && py == qy) = false := by
 rcases b2 (px == qx && py == qy) with k | k
 ·exact k
 ·simp only [Bool.and_eq_true, beq_iff_eq] at k
  exfalso
  rcases wayI_cases ax ay bx bY px py qx qy with h1 | ⟨_, h1, h2⟩ | ⟨_, h1, h2⟩
  ·exact h h1
  ·rw [k.1, k.2] at h1; omega
  ·rw [k.1, k.2] at h1; omega
theorem way_sg {ax ay bx bY px py qx qy : Int} (h : ¬ wayI ax ay bx bY px py qx qy = 0) (hp : isPt px py = true) (hq : isPt qx qy = true) : isSg px py qx qy = true := by unfold isSg; rw [hp, hq, way_ne h]; rfl
theorem way_den {ax ay bx bY px py qx qy : Int} (h : ¬ wayI ax ay bx bY px py qx qy = 0) : 1 ≤ absI (crs ax ay bx bY px py) + absI (crs ax ay bx bY qx qy) := by
 unfold absI
 rcases wayI_cases ax ay bx bY px py qx qy with h1 | ⟨_, h1, h2⟩ | ⟨_, h1, h2⟩
 ·exact absurd h1 h
 ·split <;> split <;> omega
 ·split <;> split <;> omega
set_option maxRecDepth 100000 in
set_option maxHeartbeats 8000000 in
theorem impl_CrossingPlace_ok (ax ay bx bY px py qx qy : Int) (hl : isSg ax ay bx bY = true) (hp : isPt px py = true) (hq : isPt qx qy = true) (hw : ¬ wayI ax ay bx bY px py qx qy = 0) (w : World) :
 Calls Tryz.prog 182 #[.agg #[.int .i64 px, .int .i64 py, .int .i64 qx, .int .i64 qy], .agg #[.int .i64 ax, .int .i64 ay, .int .i64 bx, .int .i64 bY]] w fun e w' => e = .returned (.tuple #[.agg #[.int .i64 (cpN (crs ax ay bx bY px py) (crs ax ay bx bY qx qy)), .int .i64 (cpD (crs ax ay bx bY px py) (crs ax ay bx bY qx qy))], .int .i64 0]) ∧ Below w.heap.size w w' := by
 obtain ⟨ha, hb, _⟩ := isSg_t hl
 obtain ⟨s1, s2⟩ := pt_sm ha
 obtain ⟨s3, s4⟩ := pt_sm hb
 obtain ⟨s5, s6⟩ := pt_sm hp
 obtain ⟨s7, s8⟩ := pt_sm hq
 obtain ⟨c0, c1, c2, c3⟩ := cp_pre hl hp hq
 have hd := way_den hw
 have hcs : (crs ax ay bx bY px py ≤ 0 ∧ 0 < crs ax ay bx bY qx qy) ∨ (0 < crs ax ay bx bY px py ∧ crs ax ay bx bY qx qy ≤ 0) := by
  rcases wayI_cases ax ay bx bY px py qx qy with h1 | ⟨_, h1, h2⟩ | ⟨_, h1, h2⟩
  ·exact absurd h1 hw
  ·exact .inl ⟨h1, h2⟩
  ·exact .inr ⟨h1, h2⟩
 have KS := hide (fun W => way_sg hw hp hq ▸ impl_IsSegment px py qx qy W)
 have KL := hide (fun W => hl ▸ impl_IsSegment ax ay bx bY W)
 have K1 := fun W => impl_cross ax ay bx bY px py s1 s2 s3 s4 s5 s6 W
 have K2 := fun W => impl_cross ax ay bx bY qx qy s1 s2 s3 s4 s7 s8 W
 have KR := fun W => impl_lowest (absI (crs ax ay bx bY px py)) (absI (crs ax ay bx bY px py) + absI (crs ax ay bx bY qx qy)) (absI_nn _) (by unfold absI; split <;> omega) hd (by unfold absI; split <;> split <;> omega) W
 unfold cpN cpD
 generalize crs ax ay bx bY px py = a9 at *
 generalize crs ax ay bx bY qx qy = b9 at *
 obtain ⟨n9, hn9⟩ : ∃ n, n = absI a9 := ⟨_, rfl⟩
 obtain ⟨m9, hm9⟩ : ∃ m, m = absI a9 + absI b9 := ⟨_, rfl⟩
 have en : n9 = if a9 < 0 then -a9 else a9 := hn9
 have em : m9 = (if a9 < 0 then -a9 else a9) + (if b9 < 0 then -b9 else b9) := hm9
 rw [← hm9, ← hn9] at KR ⊢
 generalize n9 / gdI n9 m9 = r9 at *
 generalize m9 / gdI n9 m9 = t9 at *
 have K1 := hide K1
 have K2 := hide K2
 have KR := hide KR
 clear hn9 hm9 s1 s2 s3 s4 s5 s6 s7 s8 ha hb hp hq hl hw hd
 rcases hcs with ⟨p1, p2⟩ | ⟨p1, p2⟩
 ·rcases Int.lt_or_eq_of_le p1 with k0 | k0
  ·have e1 : n9 = -a9 := by rw [en]; (repeat' split) <;> omega
   have e2 : m9 = -a9 + b9 := by rw [em]; (repeat' split) <;> omega
   rw [e1, e2] at KR
   clear en em e1 e2
   have x1 : max a9 (-a9) = -a9 := by omega
   have x2 : max (a9 - b9) (b9 - a9) = -a9 + b9 := by omega
   have x3 : max (-a9) a9 = -a9 := by omega
   have x4 : max (b9 - a9) (a9 - b9) = -a9 + b9 := by omega
   have y1 : ¬ 0 < a9 := by omega
   have y2 : 0 < b9 := by omega
   have y3 : ¬ b9 < 0 := by omega
   have y4 : (b9 == 0) = false := beq_eq_false_iff_ne.2 (by omega)
   have yk : (a9 == 0) = false := beq_eq_false_iff_ne.2 (by omega)
   have yl : a9 < 0 := by omega
   clear k0
   go_enter Tryz.func182, Tryz.ntmps182
   go_upto_region 3 with (first | (go_at_call 96; (with_reducible refine (KS.out _).mono ?_); rintro e w9 ⟨rfl, hb⟩; obtain ⟨hc, hf⟩ := bcell hb; have hz := hb.size; have z0 : w.heap.size < w9.heap.size := (by first | omega | (simp at hz; omega)); have z1 : w.heap.size + 1 < w9.heap.size := (by first | omega | (simp at hz; omega)); have z2 : w.heap.size + 1 + 1 < w9.heap.size := (by first | omega | (simp at hz; omega))) | (go_at_call 96; (with_reducible refine (KL.out _).mono ?_); rintro e w9 ⟨rfl, hb⟩; obtain ⟨hc, hf⟩ := bcell hb; have hz := hb.size; have z0 : w.heap.size < w9.heap.size := (by first | omega | (simp at hz; omega)); have z1 : w.heap.size + 1 < w9.heap.size := (by first | omega | (simp at hz; omega)); have z2 : w.heap.size + 1 + 1 < w9.heap.size := (by first | omega | (simp at hz; omega))))
   go_cut [6, 7] (fun s6 s7 W => s6 = .int .i64 a9 ∧ s7 = .int .i64 b9 ∧ W.cell? ⟨w.heap.size, 0, none⟩ = some (.int .i64 px) ∧ W.cell? ⟨w.heap.size, 1, none⟩ = some (.int .i64 py) ∧ W.cell? ⟨w.heap.size, 2, none⟩ = some (.int .i64 qx) ∧ W.cell? ⟨w.heap.size, 3, none⟩ = some (.int .i64 qy) ∧ W.cell? ⟨w.heap.size + 1, 0, none⟩ = some (.int .i64 ax) ∧ W.cell? ⟨w.heap.size + 1, 1, none⟩ = some (.int .i64 ay) ∧ W.cell? ⟨w.heap.size + 1, 2, none⟩ = some (.int .i64 bx) ∧ W.cell? ⟨w.heap.size + 1, 3, none⟩ = some (.int .i64 bY) ∧ W.cell? ⟨w.heap.size + 2, 0, none⟩ = some (.int .i64 0) ∧ W.frozen? ⟨w.heap.size + 2, 0, none⟩ = false ∧ W.cell? ⟨w.heap.size + 2, 1, none⟩ = some (.int .i64 0) ∧ W.frozen? ⟨w.heap.size + 2, 1, none⟩ = false ∧ Below w.heap.size w W ∧ w.heap.size + 3 ≤ W.heap.size)
   case first =>
    obtain ⟨wT, hT⟩ : ∃ W : World, W = w9 := ⟨_, rfl⟩
    have m0 : w9.cell? ⟨w.heap.size, 0, none⟩ = some (.int .i64 px) := by go_simp
    have m1 : w9.cell? ⟨w.heap.size, 1, none⟩ = some (.int .i64 py) := by go_simp
    have m2 : w9.cell? ⟨w.heap.size, 2, none⟩ = some (.int .i64 qx) := by go_simp
    have m3 : w9.cell? ⟨w.heap.size, 3, none⟩ = some (.int .i64 qy) := by go_simp
    have m4 : w9.cell? ⟨w.heap.size + 1, 0, none⟩ = some (.int .i64 ax) := by go_simp
    have m5 : w9.cell? ⟨w.heap.size + 1, 1, none⟩ = some (.int .i64 ay) := by go_simp
    have m6 : w9.cell? ⟨w.heap.size + 1, 2, none⟩ = some (.int .i64 bx) := by go_simp
    have m7 : w9.cell? ⟨w.heap.size + 1, 3, none⟩ = some (.int .i64 bY) := by go_simp
    have m8 : w9.cell? ⟨w.heap.size + 1 + 1, 0, none⟩ = some (.int .i64 0) := by go_simp
    have m9 : w9.cell? ⟨w.heap.size + 1 + 1, 1, none⟩ = some (.int .i64 0) := by go_simp
    have n0 : w9.frozen? ⟨w.heap.size + 1 + 1, 0, none⟩ = false := by go_simp
    have n1 : w9.frozen? ⟨w.heap.size + 1 + 1, 1, none⟩ = false := by go_simp
    have HBT := hide (show Below w.heap.size w w9 from bwz)
    have zT2 : w.heap.size + 1 + 1 < w9.heap.size := World.block_lt_of_cell? _ _ m8
    rw [← hT] at *
    clear hT hc hf hb
    have zT1 : w.heap.size + 1 < wT.heap.size := by omega
    have zT0 : w.heap.size < wT.heap.size := by omega
    refine wp_region_held_drew (S := fun W => Below wT.heap.size wT W) (by kernel_rfl) (Below.drew (Below.refl _ _)) (fun hHeld => ?_)
    refine tkN 0 (some 17) rfl ?_; simp only [pz]
    refine tkL 1 (some 18) rfl ?_; simp only [pz]
    refine tkN 2 (some 19) rfl ?_; simp only [pz]
    refine tkL 3 (some 20) rfl ?_; simp only [pz]
    refine tkN 4 (some 21) rfl ?_; simp only [pz]
    refine tkL 5 (some 22) rfl ?_; simp only [pz]
    refine tkN 7 (some 24) rfl ?_; simp only [pz]
    refine tkL 8 (some 25) rfl ?_; simp only [pz]
    refine tkN 9 (some 26) rfl ?_; simp only [pz]
    refine tkL 10 (some 27) rfl ?_; simp only [pz]
    refine tkN 11 (some 28) rfl ?_; simp only [pz]
    refine tkL 12 (some 29) rfl ?_; simp only [pz]
    refine rd1 6 (some 23) rfl (fun K hK => ?_)
    go_simp; (first | (go_at_call 135; (with_reducible refine (K1.out _).mono ?_); rintro e w9 ⟨rfl, hb⟩) | (go_at_call 135; (with_reducible refine (K2.out _).mono ?_); rintro e w9 ⟨rfl, hb⟩))
    all_goals (try go_wp2_with fail)
    refine hK.out _ _ ?_ (fun hH2 => ?_)
    ·exact hhz
    clear hK K hHeld; (have hHeld := hH2); clear hH2; (try simp only [pz])
    refine rd1 13 (some 30) rfl (fun K hK => ?_)
    go_simp; (first | (go_at_call 135; (with_reducible refine (K1.out _).mono ?_); rintro e w9 ⟨rfl, hb⟩) | (go_at_call 135; (with_reducible refine (K2.out _).mono ?_); rintro e w9 ⟨rfl, hb⟩))
    all_goals (try go_wp2_with fail)
    refine hK.out _ _ ?_ (fun hH2 => ?_)
    ·exact hhz
    clear hK K hHeld; (have hHeld := hH2); clear hH2; (try simp only [pz])
    refine tkN 14 (some 6) rfl ?_; simp only [pz]
    refine tkN 15 (some 7) rfl ?_; simp only [pz]
    refine wpAnyH_done (by kernel_rfl) ?_ _; (try simp only [pz])
    go_wp2_with fail
    go_meet
    exact ⟨rfl, rfl, cell_later hHeld m0, cell_later hHeld m1, cell_later hHeld m2, cell_later hHeld m3, cell_later hHeld m4, cell_later hHeld m5, cell_later hHeld m6, cell_later hHeld m7, cell_later hHeld m8, frozen_later hHeld m8 n0, cell_later hHeld m9, frozen_later hHeld m9 n1, bstep HBT.out hHeld, (by have := hHeld.size; omega)⟩
   case rest =>
    obtain ⟨rfl, rfl, m0, m1, m2, m3, m4, m5, m6, m7, m8, n0, m9, n1, kB, kz⟩ := hcut
    have zT2 : w.heap.size + 1 + 1 < wc.heap.size := by omega
    have zT1 : w.heap.size + 1 < wc.heap.size := by omega
    have zT0 : w.heap.size < wc.heap.size := by omega
    go_wp2_with (go_at_call 98; (with_reducible refine (KR.out _).mono ?_); rintro e w9 ⟨rfl, hb⟩; obtain ⟨hc, hf⟩ := bcell hb; have hz9 := hb.size; have zU2 : w.heap.size + 1 + 1 < w9.heap.size := (by omega))
    simp [bodyPost, results, Tryz.results182, go_sem, *]
    all_goals exact bwz
  ·have e1 : n9 = a9 := by rw [en]; (repeat' split) <;> omega
   have e2 : m9 = a9 + b9 := by rw [em]; (repeat' split) <;> omega
   rw [e1, e2] at KR
   clear en em e1 e2
   have x1 : max a9 (-a9) = a9 := by omega
   have x2 : max (a9 - b9) (b9 - a9) = a9 + b9 := by omega
   have x3 : max (-a9) a9 = a9 := by omega
   have x4 : max (b9 - a9) (a9 - b9) = a9 + b9 := by omega
   have y1 : ¬ 0 < a9 := by omega
   have y2 : 0 < b9 := by omega
   have y3 : ¬ b9 < 0 := by omega
   have y4 : (b9 == 0) = false := beq_eq_false_iff_ne.2 (by omega)
   have yk : (a9 == 0) = true := by rw [k0]; rfl
   have yl : ¬ a9 < 0 := by omega
   clear k0
   go_enter Tryz.func182, Tryz.ntmps182
   go_upto_region 3 with (first | (go_at_call 96; (with_reducible refine (KS.out _).mono ?_); rintro e w9 ⟨rfl, hb⟩; obtain ⟨hc, hf⟩ := bcell hb; have hz := hb.size; have z0 : w.heap.size < w9.heap.size := (by first | omega | (simp at hz; omega)); have z1 : w.heap.size + 1 < w9.heap.size := (by first | omega | (simp at hz; omega)); have z2 : w.heap.size + 1 + 1 < w9.heap.size := (by first | omega | (simp at hz; omega))) | (go_at_call 96; (with_reducible refine (KL.out _).mono ?_); rintro e w9 ⟨rfl, hb⟩; obtain ⟨hc, hf⟩ := bcell hb; have hz := hb.size; have z0 : w.heap.size < w9.heap.size := (by first | omega | (simp at hz; omega)); have z1 : w.heap.size + 1 < w9.heap.size := (by first | omega | (simp at hz; omega)); have z2 : w.heap.size + 1 + 1 < w9.heap.size := (by first | omega | (simp at hz; omega))))
   go_cut [6, 7] (fun s6 s7 W => s6 = .int .i64 a9 ∧ s7 = .int .i64 b9 ∧ W.cell? ⟨w.heap.size, 0, none⟩ = some (.int .i64 px) ∧ W.cell? ⟨w.heap.size, 1, none⟩ = some (.int .i64 py) ∧ W.cell? ⟨w.heap.size, 2, none⟩ = some (.int .i64 qx) ∧ W.cell? ⟨w.heap.size, 3, none⟩ = some (.int .i64 qy) ∧ W.cell? ⟨w.heap.size + 1, 0, none⟩ = some (.int .i64 ax) ∧ W.cell? ⟨w.heap.size + 1, 1, none⟩ = some (.int .i64 ay) ∧ W.cell? ⟨w.heap.size + 1, 2, none⟩ = some (.int .i64 bx) ∧ W.cell? ⟨w.heap.size + 1, 3, none⟩ = some (.int .i64 bY) ∧ W.cell? ⟨w.heap.size + 2, 0, none⟩ = some (.int .i64 0) ∧ W.frozen? ⟨w.heap.size + 2, 0, none⟩ = false ∧ W.cell? ⟨w.heap.size + 2, 1, none⟩ = some (.int .i64 0) ∧ W.frozen? ⟨w.heap.size + 2, 1, none⟩ = false ∧ Below w.heap.size w W ∧ w.heap.size + 3 ≤ W.heap.size)
   case first =>
    obtain ⟨wT, hT⟩ : ∃ W : World, W = w9 := ⟨_, rfl⟩
    have m0 : w9.cell? ⟨w.heap.size, 0, none⟩ = some (.int .i64 px) := by go_simp
    have m1 : w9.cell? ⟨w.heap.size, 1, none⟩ = some (.int .i64 py) := by go_simp
    have m2 : w9.cell? ⟨w.heap.size, 2, none⟩ = some (.int .i64 qx) := by go_simp
    have m3 : w9.cell? ⟨w.heap.size, 3, none⟩ = some (.int .i64 qy) := by go_simp
    have m4 : w9.cell? ⟨w.heap.size + 1, 0, none⟩ = some (.int .i64 ax) := by go_simp
    have m5 : w9.cell? ⟨w.heap.size + 1, 1, none⟩ = some (.int .i64 ay) := by go_simp
    have m6 : w9.cell? ⟨w.heap.size + 1, 2, none⟩ = some (.int .i64 bx) := by go_simp
    have m7 : w9.cell? ⟨w.heap.size + 1, 3, none⟩ = some (.int .i64 bY) := by go_simp
    have m8 : w9.cell? ⟨w.heap.size + 1 + 1, 0, none⟩ = some (.int .i64 0) := by go_simp
    have m9 : w9.cell? ⟨w.heap.size + 1 + 1, 1, none⟩ = some (.int .i64 0) := by go_simp
    have n0 : w9.frozen? ⟨w.heap.size + 1 + 1, 0, none⟩ = false := by go_simp
    have n1 : w9.frozen? ⟨w.heap.size + 1 + 1, 1, none⟩ = false := by go_simp
    have HBT := hide (show Below w.heap.size w w9 from bwz)
    have zT2 : w.heap.size + 1 + 1 < w9.heap.size := World.block_lt_of_cell? _ _ m8
    rw [← hT] at *
    clear hT hc hf hb
    have zT1 : w.heap.size + 1 < wT.heap.size := by omega
    have zT0 : w.heap.size < wT.heap.size := by omega
    refine wp_region_held_drew (S := fun W => Below wT.heap.size wT W) (by kernel_rfl) (Below.drew (Below.refl _ _)) (fun hHeld => ?_)
    refine tkN 0 (some 17) rfl ?_; simp only [pz]
    refine tkL 1 (some 18) rfl ?_; simp only [pz]
    refine tkN 2 (some 19) rfl ?_; simp only [pz]
    refine tkL 3 (some 20) rfl ?_; simp only [pz]
    refine tkN 4 (some 21) rfl ?_; simp only [pz]
    refine tkL 5 (some 22) rfl ?_; simp only [pz]
    refine tkN 7 (some 24) rfl ?_; simp only [pz]
    refine tkL 8 (some 25) rfl ?_; simp only [pz]
    refine tkN 9 (some 26) rfl ?_; simp only [pz]
    refine tkL 10 (some 27) rfl ?_; simp only [pz]
    refine tkN 11 (some 28) rfl ?_; simp only [pz]
    refine tkL 12 (some 29) rfl ?_; simp only [pz]
    refine rd1 6 (some 23) rfl (fun K hK => ?_)
    go_simp; (first | (go_at_call 135; (with_reducible refine (K1.out _).mono ?_); rintro e w9 ⟨rfl, hb⟩) | (go_at_call 135; (with_reducible refine (K2.out _).mono ?_); rintro e w9 ⟨rfl, hb⟩))
    all_goals (try go_wp2_with fail)
    refine hK.out _ _ ?_ (fun hH2 => ?_)
    ·exact hhz
    clear hK K hHeld; (have hHeld := hH2); clear hH2; (try simp only [pz])
    refine rd1 13 (some 30) rfl (fun K hK => ?_)
    go_simp; (first | (go_at_call 135; (with_reducible refine (K1.out _).mono ?_); rintro e w9 ⟨rfl, hb⟩) | (go_at_call 135; (with_reducible refine (K2.out _).mono ?_); rintro e w9 ⟨rfl, hb⟩))
    all_goals (try go_wp2_with fail)
    refine hK.out _ _ ?_ (fun hH2 => ?_)
    ·exact hhz
    clear hK K hHeld; (have hHeld := hH2); clear hH2; (try simp only [pz])
    refine tkN 14 (some 6) rfl ?_; simp only [pz]
    refine tkN 15 (some 7) rfl ?_; simp only [pz]
    refine wpAnyH_done (by kernel_rfl) ?_ _; (try simp only [pz])
    go_wp2_with fail
    go_meet
    exact ⟨rfl, rfl, cell_later hHeld m0, cell_later hHeld m1, cell_later hHeld m2, cell_later hHeld m3, cell_later hHeld m4, cell_later hHeld m5, cell_later hHeld m6, cell_later hHeld m7, cell_later hHeld m8, frozen_later hHeld m8 n0, cell_later hHeld m9, frozen_later hHeld m9 n1, bstep HBT.out hHeld, (by have := hHeld.size; omega)⟩
   case rest =>
    obtain ⟨rfl, rfl, m0, m1, m2, m3, m4, m5, m6, m7, m8, n0, m9, n1, kB, kz⟩ := hcut
    have zT2 : w.heap.size + 1 + 1 < wc.heap.size := by omega
    have zT1 : w.heap.size + 1 < wc.heap.size := by omega
    have zT0 : w.heap.size < wc.heap.size := by omega
    go_wp2_with (go_at_call 98; (with_reducible refine (KR.out _).mono ?_); rintro e w9 ⟨rfl, hb⟩; obtain ⟨hc, hf⟩ := bcell hb; have hz9 := hb.size; have zU2 : w.heap.size + 1 + 1 < w9.heap.size := (by omega))
    simp [bodyPost, results, Tryz.results182, go_sem, *]
    all_goals exact bwz
 ·rcases Int.lt_or_eq_of_le p2 with k0 | k0
  ·have e1 : n9 = a9 := by rw [en]; (repeat' split) <;> omega
   have e2 : m9 = a9 + -b9 := by rw [em]; (repeat' split) <;> omega
   rw [e1, e2] at KR
   clear en em e1 e2
   have x1 : max a9 (-a9) = a9 := by omega
   have x2 : max (a9 - b9) (b9 - a9) = a9 + -b9 := by omega
   have x3 : max (-a9) a9 = a9 := by omega
   have x4 : max (b9 - a9) (a9 - b9) = a9 + -b9 := by omega
   have y1 : 0 < a9 := by omega
   have y2 : ¬ 0 < b9 := by omega
   have y3 : ¬ a9 < 0 := by omega
   have y4 : (a9 == 0) = false := beq_eq_false_iff_ne.2 (by omega)
   have yk : (b9 == 0) = false := beq_eq_false_iff_ne.2 (by omega)
   have yl : b9 < 0 := by omega
   clear k0
   go_enter Tryz.func182, Tryz.ntmps182
   go_upto_region 3 with (first | (go_at_call 96; (with_reducible refine (KS.out _).mono ?_); rintro e w9 ⟨rfl, hb⟩; obtain ⟨hc, hf⟩ := bcell hb; have hz := hb.size; have z0 : w.heap.size < w9.heap.size := (by first | omega | (simp at hz; omega)); have z1 : w.heap.size + 1 < w9.heap.size := (by first | omega | (simp at hz; omega)); have z2 : w.heap.size + 1 + 1 < w9.heap.size := (by first | omega | (simp at hz; omega))) | (go_at_call 96; (with_reducible refine (KL.out _).mono ?_); rintro e w9 ⟨rfl, hb⟩; obtain ⟨hc, hf⟩ := bcell hb; have hz := hb.size; have z0 : w.heap.size < w9.heap.size := (by first | omega | (simp at hz; omega)); have z1 : w.heap.size + 1 < w9.heap.size := (by first | omega | (simp at hz; omega)); have z2 : w.heap.size + 1 + 1 < w9.heap.size := (by first | omega | (simp at hz; omega))))
   go_cut [6, 7] (fun s6 s7 W => s6 = .int .i64 a9 ∧ s7 = .int .i64 b9 ∧ W.cell? ⟨w.heap.size, 0, none⟩ = some (.int .i64 px) ∧ W.cell? ⟨w.heap.size, 1, none⟩ = some (.int .i64 py) ∧ W.cell? ⟨w.heap.size, 2, none⟩ = some (.int .i64 qx) ∧ W.cell? ⟨w.heap.size, 3, none⟩ = some (.int .i64 qy) ∧ W.cell? ⟨w.heap.size + 1, 0, none⟩ = some (.int .i64 ax) ∧ W.cell? ⟨w.heap.size + 1, 1, none⟩ = some (.int .i64 ay) ∧ W.cell? ⟨w.heap.size + 1, 2, none⟩ = some (.int .i64 bx) ∧ W.cell? ⟨w.heap.size + 1, 3, none⟩ = some (.int .i64 bY) ∧ W.cell? ⟨w.heap.size + 2, 0, none⟩ = some (.int .i64 0) ∧ W.frozen? ⟨w.heap.size + 2, 0, none⟩ = false ∧ W.cell? ⟨w.heap.size + 2, 1, none⟩ = some (.int .i64 0) ∧ W.frozen? ⟨w.heap.size + 2, 1, none⟩ = false ∧ Below w.heap.size w W ∧ w.heap.size + 3 ≤ W.heap.size)
   case first =>
    obtain ⟨wT, hT⟩ : ∃ W : World, W = w9 := ⟨_, rfl⟩
    have m0 : w9.cell? ⟨w.heap.size, 0, none⟩ = some (.int .i64 px) := by go_simp
    have m1 : w9.cell? ⟨w.heap.size, 1, none⟩ = some (.int .i64 py) := by go_simp
    have m2 : w9.cell? ⟨w.heap.size, 2, none⟩ = some (.int .i64 qx) := by go_simp
    have m3 : w9.cell? ⟨w.heap.size, 3, none⟩ = some (.int .i64 qy) := by go_simp
    have m4 : w9.cell? ⟨w.heap.size + 1, 0, none⟩ = some (.int .i64 ax) := by go_simp
    have m5 : w9.cell? ⟨w.heap.size + 1, 1, none⟩ = some (.int .i64 ay) := by go_simp
    have m6 : w9.cell? ⟨w.heap.size + 1, 2, none⟩ = some (.int .i64 bx) := by go_simp
    have m7 : w9.cell? ⟨w.heap.size + 1, 3, none⟩ = some (.int .i64 bY) := by go_simp
    have m8 : w9.cell? ⟨w.heap.size + 1 + 1, 0, none⟩ = some (.int .i64 0) := by go_simp
    have m9 : w9.cell? ⟨w.heap.size + 1 + 1, 1, none⟩ = some (.int .i64 0) := by go_simp
    have n0 : w9.frozen? ⟨w.heap.size + 1 + 1, 0, none⟩ = false := by go_simp
    have n1 : w9.frozen? ⟨w.heap.size + 1 + 1, 1, none⟩ = false := by go_simp
    have HBT := hide (show Below w.heap.size w w9 from bwz)
    have zT2 : w.heap.size + 1 + 1 < w9.heap.size := World.block_lt_of_cell? _ _ m8
    rw [← hT] at *
    clear hT hc hf hb
    have zT1 : w.heap.size + 1 < wT.heap.size := by omega
    have zT0 : w.heap.size < wT.heap.size := by omega
    refine wp_region_held_drew (S := fun W => Below wT.heap.size wT W) (by kernel_rfl) (Below.drew (Below.refl _ _)) (fun hHeld => ?_)
    refine tkN 0 (some 17) rfl ?_; simp only [pz]
    refine tkL 1 (some 18) rfl ?_; simp only [pz]
    refine tkN 2 (some 19) rfl ?_; simp only [pz]
    refine tkL 3 (some 20) rfl ?_; simp only [pz]
    refine tkN 4 (some 21) rfl ?_; simp only [pz]
    refine tkL 5 (some 22) rfl ?_; simp only [pz]
    refine tkN 7 (some 24) rfl ?_; simp only [pz]
    refine tkL 8 (some 25) rfl ?_; simp only [pz]
    refine tkN 9 (some 26) rfl ?_; simp only [pz]
    refine tkL 10 (some 27) rfl ?_; simp only [pz]
    refine tkN 11 (some 28) rfl ?_; simp only [pz]
    refine tkL 12 (some 29) rfl ?_; simp only [pz]
    refine rd1 6 (some 23) rfl (fun K hK => ?_)
    go_simp; (first | (go_at_call 135; (with_reducible refine (K1.out _).mono ?_); rintro e w9 ⟨rfl, hb⟩) | (go_at_call 135; (with_reducible refine (K2.out _).mono ?_); rintro e w9 ⟨rfl, hb⟩))
    all_goals (try go_wp2_with fail)
    refine hK.out _ _ ?_ (fun hH2 => ?_)
    ·exact hhz
    clear hK K hHeld; (have hHeld := hH2); clear hH2; (try simp only [pz])
    refine rd1 13 (some 30) rfl (fun K hK => ?_)
    go_simp; (first | (go_at_call 135; (with_reducible refine (K1.out _).mono ?_); rintro e w9 ⟨rfl, hb⟩) | (go_at_call 135; (with_reducible refine (K2.out _).mono ?_); rintro e w9 ⟨rfl, hb⟩))
    all_goals (try go_wp2_with fail)
    refine hK.out _ _ ?_ (fun hH2 => ?_)
    ·exact hhz
    clear hK K hHeld; (have hHeld := hH2); clear hH2; (try simp only [pz])
    refine tkN 14 (some 6) rfl ?_; simp only [pz]
    refine tkN 15 (some 7) rfl ?_; simp only [pz]
    refine wpAnyH_done (by kernel_rfl) ?_ _; (try simp only [pz])
    go_wp2_with fail
    go_meet
    exact ⟨rfl, rfl, cell_later hHeld m0, cell_later hHeld m1, cell_later hHeld m2, cell_later hHeld m3, cell_later hHeld m4, cell_later hHeld m5, cell_later hHeld m6, cell_later hHeld m7, cell_later hHeld m8, frozen_later hHeld m8 n0, cell_later hHeld m9, frozen_later hHeld m9 n1, bstep HBT.out hHeld, (by have := hHeld.size; omega)⟩
   case rest =>
    obtain ⟨rfl, rfl, m0, m1, m2, m3, m4, m5, m6, m7, m8, n0, m9, n1, kB, kz⟩ := hcut
    have zT2 : w.heap.size + 1 + 1 < wc.heap.size := by omega
    have zT1 : w.heap.size + 1 < wc.heap.size := by omega
    have zT0 : w.heap.size < wc.heap.size := by omega
    go_wp2_with (go_at_call 98; (with_reducible refine (KR.out _).mono ?_); rintro e w9 ⟨rfl, hb⟩; obtain ⟨hc, hf⟩ := bcell hb; have hz9 := hb.size; have zU2 : w.heap.size + 1 + 1 < w9.heap.size := (by omega))
    simp [bodyPost, results, Tryz.results182, go_sem, *]
    all_goals exact bwz
  ·have e1 : n9 = a9 := by rw [en]; (repeat' split) <;> omega
   have e2 : m9 = a9 + b9 := by rw [em]; (repeat' split) <;> omega
   rw [e1, e2] at KR
   clear en em e1 e2
   have x1 : max a9 (-a9) = a9 := by omega
   have x2 : max (a9 - b9) (b9 - a9) = a9 + b9 := by omega
   have x3 : max (-a9) a9 = a9 := by omega
   have x4 : max (b9 - a9) (a9 - b9) = a9 + b9 := by omega
   have y1 : 0 < a9 := by omega
   have y2 : ¬ 0 < b9 := by omega
   have y3 : ¬ a9 < 0 := by omega
   have y4 : (a9 == 0) = false := beq_eq_false_iff_ne.2 (by omega)
   have yk : (b9 == 0) = true := by rw [k0]; rfl
   have yl : ¬ b9 < 0 := by omega
   clear k0
   go_enter Tryz.func182, Tryz.ntmps182
   go_upto_region 3 with (first | (go_at_call 96; (with_reducible refine (KS.out _).mono ?_); rintro e w9 ⟨rfl, hb⟩; obtain ⟨hc, hf⟩ := bcell hb; have hz := hb.size; have z0 : w.heap.size < w9.heap.size := (by first | omega | (simp at hz; omega)); have z1 : w.heap.size + 1 < w9.heap.size := (by first | omega | (simp at hz; omega)); have z2 : w.heap.size + 1 + 1 < w9.heap.size := (by first | omega | (simp at hz; omega))) | (go_at_call 96; (with_reducible refine (KL.out _).mono ?_); rintro e w9 ⟨rfl, hb⟩; obtain ⟨hc, hf⟩ := bcell hb; have hz := hb.size; have z0 : w.heap.size < w9.heap.size := (by first | omega | (simp at hz; omega)); have z1 : w.heap.size + 1 < w9.heap.size := (by first | omega | (simp at hz; omega)); have z2 : w.heap.size + 1 + 1 < w9.heap.size := (by first | omega | (simp at hz; omega))))
   go_cut [6, 7] (fun s6 s7 W => s6 = .int .i64 a9 ∧ s7 = .int .i64 b9 ∧ W.cell? ⟨w.heap.size, 0, none⟩ = some (.int .i64 px) ∧ W.cell? ⟨w.heap.size, 1, none⟩ = some (.int .i64 py) ∧ W.cell? ⟨w.heap.size, 2, none⟩ = some (.int .i64 qx) ∧ W.cell? ⟨w.heap.size, 3, none⟩ = some (.int .i64 qy) ∧ W.cell? ⟨w.heap.size + 1, 0, none⟩ = some (.int .i64 ax) ∧ W.cell? ⟨w.heap.size + 1, 1, none⟩ = some (.int .i64 ay) ∧ W.cell? ⟨w.heap.size + 1, 2, none⟩ = some (.int .i64 bx) ∧ W.cell? ⟨w.heap.size + 1, 3, none⟩ = some (.int .i64 bY) ∧ W.cell? ⟨w.heap.size + 2, 0, none⟩ = some (.int .i64 0) ∧ W.frozen? ⟨w.heap.size + 2, 0, none⟩ = false ∧ W.cell? ⟨w.heap.size + 2, 1, none⟩ = some (.int .i64 0) ∧ W.frozen? ⟨w.heap.size + 2, 1, none⟩ = false ∧ Below w.heap.size w W ∧ w.heap.size + 3 ≤ W.heap.size)
   case first =>
    obtain ⟨wT, hT⟩ : ∃ W : World, W = w9 := ⟨_, rfl⟩
    have m0 : w9.cell? ⟨w.heap.size, 0, none⟩ = some (.int .i64 px) := by go_simp
    have m1 : w9.cell? ⟨w.heap.size, 1, none⟩ = some (.int .i64 py) := by go_simp
    have m2 : w9.cell? ⟨w.heap.size, 2, none⟩ = some (.int .i64 qx) := by go_simp
    have m3 : w9.cell? ⟨w.heap.size, 3, none⟩ = some (.int .i64 qy) := by go_simp
    have m4 : w9.cell? ⟨w.heap.size + 1, 0, none⟩ = some (.int .i64 ax) := by go_simp
    have m5 : w9.cell? ⟨w.heap.size + 1, 1, none⟩ = some (.int .i64 ay) := by go_simp
    have m6 : w9.cell? ⟨w.heap.size + 1, 2, none⟩ = some (.int .i64 bx) := by go_simp
    have m7 : w9.cell? ⟨w.heap.size + 1, 3, none⟩ = some (.int .i64 bY) := by go_simp
    have m8 : w9.cell? ⟨w.heap.size + 1 + 1, 0, none⟩ = some (.int .i64 0) := by go_simp
    have m9 : w9.cell? ⟨w.heap.size + 1 + 1, 1, none⟩ = some (.int .i64 0) := by go_simp
    have n0 : w9.frozen? ⟨w.heap.size + 1 + 1, 0, none⟩ = false := by go_simp
    have n1 : w9.frozen? ⟨w.heap.size + 1 + 1, 1, none⟩ = false := by go_simp
    have HBT := hide (show Below w.heap.size w w9 from bwz)
    have zT2 : w.heap.size + 1 + 1 < w9.heap.size := World.block_lt_of_cell? _ _ m8
    rw [← hT] at *
    clear hT hc hf hb
    have zT1 : w.heap.size + 1 < wT.heap.size := by omega
    have zT0 : w.heap.size < wT.heap.size := by omega
    refine wp_region_held_drew (S := fun W => Below wT.heap.size wT W) (by kernel_rfl) (Below.drew (Below.refl _ _)) (fun hHeld => ?_)
    refine tkN 0 (some 17) rfl ?_; simp only [pz]
    refine tkL 1 (some 18) rfl ?_; simp only [pz]
    refine tkN 2 (some 19) rfl ?_; simp only [pz]
    refine tkL 3 (some 20) rfl ?_; simp only [pz]
    refine tkN 4 (some 21) rfl ?_; simp only [pz]
    refine tkL 5 (some 22) rfl ?_; simp only [pz]
    refine tkN 7 (some 24) rfl ?_; simp only [pz]
    refine tkL 8 (some 25) rfl ?_; simp only [pz]
    refine tkN 9 (some 26) rfl ?_; simp only [pz]
    refine tkL 10 (some 27) rfl ?_; simp only [pz]
    refine tkN 11 (some 28) rfl ?_; simp only [pz]
    refine tkL 12 (some 29) rfl ?_; simp only [pz]
    refine rd1 6 (some 23) rfl (fun K hK => ?_)
    go_simp; (first | (go_at_call 135; (with_reducible refine (K1.out _).mono ?_); rintro e w9 ⟨rfl, hb⟩) | (go_at_call 135; (with_reducible refine (K2.out _).mono ?_); rintro e w9 ⟨rfl, hb⟩))
    all_goals (try go_wp2_with fail)
    refine hK.out _ _ ?_ (fun hH2 => ?_)
    ·exact hhz
    clear hK K hHeld; (have hHeld := hH2); clear hH2; (try simp only [pz])
    refine rd1 13 (some 30) rfl (fun K hK => ?_)
    go_simp; (first | (go_at_call 135; (with_reducible refine (K1.out _).mono ?_); rintro e w9 ⟨rfl, hb⟩) | (go_at_call 135; (with_reducible refine (K2.out _).mono ?_); rintro e w9 ⟨rfl, hb⟩))
    all_goals (try go_wp2_with fail)
    refine hK.out _ _ ?_ (fun hH2 => ?_)
    ·exact hhz
    clear hK K hHeld; (have hHeld := hH2); clear hH2; (try simp only [pz])
    refine tkN 14 (some 6) rfl ?_; simp only [pz]
    refine tkN 15 (some 7) rfl ?_; simp only [pz]
    refine wpAnyH_done (by kernel_rfl) ?_ _; (try simp only [pz])
    go_wp2_with fail
    go_meet
    exact ⟨rfl, rfl, cell_later hHeld m0, cell_later hHeld m1, cell_later hHeld m2, cell_later hHeld m3, cell_later hHeld m4, cell_later hHeld m5, cell_later hHeld m6, cell_later hHeld m7, cell_later hHeld m8, frozen_later hHeld m8 n0, cell_later hHeld m9, frozen_later hHeld m9 n1, bstep HBT.out hHeld, (by have := hHeld.size; omega)⟩
   case rest =>
    obtain ⟨rfl, rfl, m0, m1, m2, m3, m4, m5, m6, m7, m8, n0, m9, n1, kB, kz⟩ := hcut
    have zT2 : w.heap.size + 1 + 1 < wc.heap.size := by omega
    have zT1 : w.heap.size + 1 < wc.heap.size := by omega
    have zT0 : w.heap.size < wc.heap.size := by omega
    go_wp2_with (go_at_call 98; (with_reducible refine (KR.out _).mono ?_); rintro e w9 ⟨rfl, hb⟩; obtain ⟨hc, hf⟩ := bcell hb; have hz9 := hb.size; have zU2 : w.heap.size + 1 + 1 < w9.heap.size := (by omega))
    simp [bodyPost, results, Tryz.results182, go_sem, *]
    all_goals exact bwz
set_option maxRecDepth 100000 in
set_option maxHeartbeats 8000000 in
theorem spec_l02Place_ok (ax ay bx bY px py qx qy : Int) (hl : isSg ax ay bx bY = true) (hp : isPt px py = true) (hq : isPt qx qy = true) (hw : ¬ wayI ax ay bx bY px py qx qy = 0) (w : World) :
 Calls Tryz.prog 175 #[.agg #[.int .i64 px, .int .i64 py, .int .i64 qx, .int .i64 qy], .agg #[.int .i64 ax, .int .i64 ay, .int .i64 bx, .int .i64 bY]] w fun e w' => e = .returned (.tuple #[.agg #[.int .i64 (cpN (crs ax ay bx bY px py) (crs ax ay bx bY qx qy)), .int .i64 (cpD (crs ax ay bx bY px py) (crs ax ay bx bY qx qy))], .bool true]) ∧ Below w.heap.size w w' := by
 obtain ⟨ha, hb, _⟩ := isSg_t hl
 obtain ⟨s1, s2⟩ := pt_sm ha
 obtain ⟨s3, s4⟩ := pt_sm hb
 obtain ⟨s5, s6⟩ := pt_sm hp
 obtain ⟨s7, s8⟩ := pt_sm hq
 obtain ⟨c0, c1, c2, c3⟩ := cp_pre hl hp hq
 have hd := way_den hw
 have hcs : (crs ax ay bx bY px py ≤ 0 ∧ 0 < crs ax ay bx bY qx qy) ∨ (0 < crs ax ay bx bY px py ∧ crs ax ay bx bY qx qy ≤ 0) := by
  rcases wayI_cases ax ay bx bY px py qx qy with h1 | ⟨_, h1, h2⟩ | ⟨_, h1, h2⟩
  ·exact absurd h1 hw
  ·exact .inl ⟨h1, h2⟩
  ·exact .inr ⟨h1, h2⟩
 have KM := hide (fun W => spec_l01Minus bx bY ax ay s3 s4 s1 s2 W)
 have KN1 := hide (fun W => spec_l01Minus px py ax ay s5 s6 s1 s2 W)
 have KN2 := hide (fun W => spec_l01Minus qx qy ax ay s7 s8 s1 s2 W)
 have K1 := fun W => (show (bx - ax) * (py - ay) - (bY - ay) * (px - ax) = crs ax ay bx bY px py from rfl) ▸ spec_l01Cross (bx - ax) (bY - ay) (px - ax) (py - ay) (sm_mul s3 s1 s6 s2) (sm_mul s4 s2 s5 s1) W
 have K2 := fun W => (show (bx - ax) * (qy - ay) - (bY - ay) * (qx - ax) = crs ax ay bx bY qx qy from rfl) ▸ spec_l01Cross (bx - ax) (bY - ay) (qx - ax) (qy - ay) (sm_mul s3 s1 s8 s2) (sm_mul s4 s2 s7 s1) W
 have KR := fun W => spec_l02Ratio (absI (crs ax ay bx bY px py)) (absI (crs ax ay bx bY px py) + absI (crs ax ay bx bY qx qy)) (absI_nn _) (by unfold absI; split <;> omega) hd (by unfold absI; split <;> split <;> omega) W
 unfold cpN cpD
 generalize crs ax ay bx bY px py = a9 at *
 generalize crs ax ay bx bY qx qy = b9 at *
 obtain ⟨n9, hn9⟩ : ∃ n, n = absI a9 := ⟨_, rfl⟩
 obtain ⟨m9, hm9⟩ : ∃ m, m = absI a9 + absI b9 := ⟨_, rfl⟩
 have en : n9 = if a9 < 0 then -a9 else a9 := hn9
 have em : m9 = (if a9 < 0 then -a9 else a9) + (if b9 < 0 then -b9 else b9) := hm9
 rw [← hm9, ← hn9] at KR ⊢
 generalize n9 / gdI n9 m9 = r9 at *
 generalize m9 / gdI n9 m9 = t9 at *
 have K1 := hide K1
 have K2 := hide K2
 have KR := hide KR
 clear hn9 hm9 s1 s2 s3 s4 s5 s6 s7 s8 ha hb hp hq hl hw hd
 rcases hcs with ⟨p1, p2⟩ | ⟨p1, p2⟩
 ·rcases Int.lt_or_eq_of_le p1 with k0 | k0
  ·have e1 : n9 = -a9 := by rw [en]; (repeat' split) <;> omega
   have e2 : m9 = -a9 + b9 := by rw [em]; (repeat' split) <;> omega
   rw [e1, e2] at KR
   clear en em e1 e2
   have y1 : ¬ 0 < a9 := by omega
   have y2 : 0 < b9 := by omega
   have y3 : ¬ b9 < 0 := by omega
   have y4 : (b9 == 0) = false := beq_eq_false_iff_ne.2 (by omega)
   have yk : (a9 == 0) = false := beq_eq_false_iff_ne.2 (by omega)
   have yl : a9 < 0 := by omega
   have y5 : sgn b9 = 1 := by unfold sgn; rw [if_pos y2]
   have y6 : sgn a9 = -1 := by unfold sgn; rw [if_neg y1, if_pos yl]
   clear k0
   go_enter Tryz.func175, Tryz.ntmps175
   go_upto_region 1 with fail
   go_cut [6] (fun s6 W => s6 = .int .i64 a9 ∧ W.cell? ⟨w.heap.size, 0, none⟩ = some (.int .i64 px) ∧ W.cell? ⟨w.heap.size, 1, none⟩ = some (.int .i64 py) ∧ W.cell? ⟨w.heap.size, 2, none⟩ = some (.int .i64 qx) ∧ W.cell? ⟨w.heap.size, 3, none⟩ = some (.int .i64 qy) ∧ W.cell? ⟨w.heap.size + 1, 0, none⟩ = some (.int .i64 ax) ∧ W.cell? ⟨w.heap.size + 1, 1, none⟩ = some (.int .i64 ay) ∧ W.cell? ⟨w.heap.size + 1, 2, none⟩ = some (.int .i64 bx) ∧ W.cell? ⟨w.heap.size + 1, 3, none⟩ = some (.int .i64 bY) ∧ W.cell? ⟨w.heap.size + 2, 0, none⟩ = some (.int .i64 0) ∧ W.frozen? ⟨w.heap.size + 2, 0, none⟩ = false ∧ W.cell? ⟨w.heap.size + 2, 1, none⟩ = some (.int .i64 0) ∧ W.frozen? ⟨w.heap.size + 2, 1, none⟩ = false ∧ Below w.heap.size w W ∧ w.heap.size + 3 ≤ W.heap.size)
   case first =>
    obtain ⟨wT, hT⟩ : ∃ W, W = (((w.alloc (.cells #[.int .i64 px, .int .i64 py, .int .i64 qx, .int .i64 qy] 91)).alloc (.cells #[.int .i64 ax, .int .i64 ay, .int .i64 bx, .int .i64 bY] 91)).alloc (.cells #[.int .i64 0, .int .i64 0] 94)) := ⟨_, rfl⟩
    have m0 : wT.cell? ⟨w.heap.size, 0, none⟩ = some (.int .i64 px) := by rw [hT]; go_simp
    have m1 : wT.cell? ⟨w.heap.size, 1, none⟩ = some (.int .i64 py) := by rw [hT]; go_simp
    have m2 : wT.cell? ⟨w.heap.size, 2, none⟩ = some (.int .i64 qx) := by rw [hT]; go_simp
    have m3 : wT.cell? ⟨w.heap.size, 3, none⟩ = some (.int .i64 qy) := by rw [hT]; go_simp
    have m4 : wT.cell? ⟨w.heap.size + 1, 0, none⟩ = some (.int .i64 ax) := by rw [hT]; go_simp
    have m5 : wT.cell? ⟨w.heap.size + 1, 1, none⟩ = some (.int .i64 ay) := by rw [hT]; go_simp
    have m6 : wT.cell? ⟨w.heap.size + 1, 2, none⟩ = some (.int .i64 bx) := by rw [hT]; go_simp
    have m7 : wT.cell? ⟨w.heap.size + 1, 3, none⟩ = some (.int .i64 bY) := by rw [hT]; go_simp
    have m8 : wT.cell? ⟨w.heap.size + 1 + 1, 0, none⟩ = some (.int .i64 0) := by rw [hT]; go_simp
    have m9 : wT.cell? ⟨w.heap.size + 1 + 1, 1, none⟩ = some (.int .i64 0) := by rw [hT]; go_simp
    have n0 : wT.frozen? ⟨w.heap.size + 1 + 1, 0, none⟩ = false := by rw [hT]; go_simp
    have n1 : wT.frozen? ⟨w.heap.size + 1 + 1, 1, none⟩ = false := by rw [hT]; go_simp
    have HBT := hide (show Below w.heap.size w wT by rw [hT]; exact bwz)
    have zT2 : w.heap.size + 1 + 1 < wT.heap.size := World.block_lt_of_cell? _ _ m8
    rw [← hT]
    clear hT
    have zT1 : w.heap.size + 1 < wT.heap.size := by omega
    have zT0 : w.heap.size < wT.heap.size := by omega
    refine wp_region_held_drew (S := fun W => Below wT.heap.size wT W) (by kernel_rfl) (Below.drew (Below.refl _ _)) (fun hHeld => ?_)
    refine tkN 0 (some 8) rfl ?_; simp only [pz]
    refine tkL 1 (some 9) rfl ?_; simp only [pz]
    refine tkN 2 (some 10) rfl ?_; simp only [pz]
    refine tkL 3 (some 11) rfl ?_; simp only [pz]
    refine tkN 5 (some 13) rfl ?_; simp only [pz]
    refine tkL 6 (some 14) rfl ?_; simp only [pz]
    refine tkN 7 (some 15) rfl ?_; simp only [pz]
    refine tkL 8 (some 16) rfl ?_; simp only [pz]
    refine rd1 4 (some 12) rfl (fun K hK => ?_)
    go_simp; (first | (go_at_call 90; (with_reducible refine (KM.out _).mono ?_); rintro e w9 ⟨rfl, hb⟩) | (go_at_call 90; (with_reducible refine (KN1.out _).mono ?_); rintro e w9 ⟨rfl, hb⟩))
    all_goals (try go_wp2_with fail)
    refine hK.out _ _ ?_ (fun hH2 => ?_)
    ·exact hhz
    clear hK K hHeld; (have hHeld := hH2); clear hH2; (try simp only [pz])
    refine rd1 9 (some 17) rfl (fun K hK => ?_)
    go_simp; (first | (go_at_call 90; (with_reducible refine (KM.out _).mono ?_); rintro e w9 ⟨rfl, hb⟩) | (go_at_call 90; (with_reducible refine (KN1.out _).mono ?_); rintro e w9 ⟨rfl, hb⟩))
    all_goals (try go_wp2_with fail)
    refine hK.out _ _ ?_ (fun hH2 => ?_)
    ·exact hhz
    clear hK K hHeld; (have hHeld := hH2); clear hH2; (try simp only [pz])
    refine rd1 10 (some 18) rfl (fun K hK => ?_)
    go_simp; (go_at_call 171; (with_reducible refine (K1.out _).mono ?_); rintro e w9 ⟨rfl, hb⟩)
    all_goals (try go_wp2_with fail)
    refine hK.out _ _ ?_ (fun hH2 => ?_)
    ·exact hhz
    clear hK K hHeld; (have hHeld := hH2); clear hH2; (try simp only [pz])
    refine tkN 11 (some 6) rfl ?_; simp only [pz]
    refine wpAnyH_done (by kernel_rfl) ?_ _; (try simp only [pz])
    go_wp2_with fail
    go_meet
    exact ⟨rfl, cell_later hHeld m0, cell_later hHeld m1, cell_later hHeld m2, cell_later hHeld m3, cell_later hHeld m4, cell_later hHeld m5, cell_later hHeld m6, cell_later hHeld m7, cell_later hHeld m8, frozen_later hHeld m8 n0, cell_later hHeld m9, frozen_later hHeld m9 n1, bstep HBT.out hHeld, (by have := hHeld.size; omega)⟩
   case rest =>
    obtain ⟨rfl, m0, m1, m2, m3, m4, m5, m6, m7, m8, n0, m9, n1, kB, kz⟩ := hcut
    obtain ⟨wS, rfl⟩ : ∃ W : World, W = wc := ⟨_, rfl⟩
    have HBT := hide kB
    have zT2 : w.heap.size + 1 + 1 < wS.heap.size := by omega
    have zT1 : w.heap.size + 1 < wS.heap.size := by omega
    have zT0 : w.heap.size < wS.heap.size := by omega
    clear kB kz
    go_upto_region 2 with fail
    go_cut [7] (fun s6 W => s6 = .int .i64 b9 ∧ W.cell? ⟨w.heap.size, 0, none⟩ = some (.int .i64 px) ∧ W.cell? ⟨w.heap.size, 1, none⟩ = some (.int .i64 py) ∧ W.cell? ⟨w.heap.size, 2, none⟩ = some (.int .i64 qx) ∧ W.cell? ⟨w.heap.size, 3, none⟩ = some (.int .i64 qy) ∧ W.cell? ⟨w.heap.size + 1, 0, none⟩ = some (.int .i64 ax) ∧ W.cell? ⟨w.heap.size + 1, 1, none⟩ = some (.int .i64 ay) ∧ W.cell? ⟨w.heap.size + 1, 2, none⟩ = some (.int .i64 bx) ∧ W.cell? ⟨w.heap.size + 1, 3, none⟩ = some (.int .i64 bY) ∧ W.cell? ⟨w.heap.size + 2, 0, none⟩ = some (.int .i64 0) ∧ W.frozen? ⟨w.heap.size + 2, 0, none⟩ = false ∧ W.cell? ⟨w.heap.size + 2, 1, none⟩ = some (.int .i64 0) ∧ W.frozen? ⟨w.heap.size + 2, 1, none⟩ = false ∧ Below w.heap.size w W ∧ w.heap.size + 3 ≤ W.heap.size)
    case first =>
     refine wp_region_held_drew (S := fun W => Below wS.heap.size wS W) (by kernel_rfl) (Below.drew (Below.refl _ _)) (fun hHeld => ?_)
     refine tkN 0 (some 19) rfl ?_; simp only [pz]
     refine tkL 1 (some 20) rfl ?_; simp only [pz]
     refine tkN 2 (some 21) rfl ?_; simp only [pz]
     refine tkL 3 (some 22) rfl ?_; simp only [pz]
     refine tkN 5 (some 24) rfl ?_; simp only [pz]
     refine tkL 6 (some 25) rfl ?_; simp only [pz]
     refine tkN 7 (some 26) rfl ?_; simp only [pz]
     refine tkL 8 (some 27) rfl ?_; simp only [pz]
     refine rd1 4 (some 23) rfl (fun K hK => ?_)
     go_simp; (first | (go_at_call 90; (with_reducible refine (KM.out _).mono ?_); rintro e w9 ⟨rfl, hb⟩) | (go_at_call 90; (with_reducible refine (KN2.out _).mono ?_); rintro e w9 ⟨rfl, hb⟩))
     all_goals (try go_wp2_with fail)
     refine hK.out _ _ ?_ (fun hH2 => ?_)
     ·exact hhz
     clear hK K hHeld; (have hHeld := hH2); clear hH2; (try simp only [pz])
     refine rd1 9 (some 28) rfl (fun K hK => ?_)
     go_simp; (first | (go_at_call 90; (with_reducible refine (KM.out _).mono ?_); rintro e w9 ⟨rfl, hb⟩) | (go_at_call 90; (with_reducible refine (KN2.out _).mono ?_); rintro e w9 ⟨rfl, hb⟩))
     all_goals (try go_wp2_with fail)
     refine hK.out _ _ ?_ (fun hH2 => ?_)
     ·exact hhz
     clear hK K hHeld; (have hHeld := hH2); clear hH2; (try simp only [pz])
     refine rd1 10 (some 29) rfl (fun K hK => ?_)
     go_simp; (go_at_call 171; (with_reducible refine (K2.out _).mono ?_); rintro e w9 ⟨rfl, hb⟩)
     all_goals (try go_wp2_with fail)
     refine hK.out _ _ ?_ (fun hH2 => ?_)
     ·exact hhz
     clear hK K hHeld; (have hHeld := hH2); clear hH2; (try simp only [pz])
     refine tkN 11 (some 7) rfl ?_; simp only [pz]
     refine wpAnyH_done (by kernel_rfl) ?_ _; (try simp only [pz])
     go_wp2_with fail
     go_meet
     exact ⟨rfl, cell_later hHeld m0, cell_later hHeld m1, cell_later hHeld m2, cell_later hHeld m3, cell_later hHeld m4, cell_later hHeld m5, cell_later hHeld m6, cell_later hHeld m7, cell_later hHeld m8, frozen_later hHeld m8 n0, cell_later hHeld m9, frozen_later hHeld m9 n1, bstep HBT.out hHeld, (by have := hHeld.size; omega)⟩
    case rest =>
     obtain ⟨rfl, m0, m1, m2, m3, m4, m5, m6, m7, m8, n0, m9, n1, kB, kz⟩ := hcut
     obtain ⟨wR, rfl⟩ : ∃ W : World, W = wc := ⟨_, rfl⟩
     have HBT := hide kB
     have zT2 : w.heap.size + 1 + 1 < wR.heap.size := by omega
     have zT1 : w.heap.size + 1 < wR.heap.size := by omega
     have zT0 : w.heap.size < wR.heap.size := by omega
     clear kB kz
     have kB := HBT.out
     go_wp2_with (first | (go_at_call 170; (with_reducible refine (spec_l01Sign _ _).mono ?_); rintro e w9 ⟨rfl, rfl⟩) | (go_at_call 138; (with_reducible refine (KR.out _).mono ?_); rintro e w9 ⟨rfl, hb⟩; obtain ⟨hc, hf⟩ := bcell hb; have hz9 := hb.size; have zU2 : w.heap.size + 1 + 1 < w9.heap.size := (by omega)))
     simp [bodyPost, results, Tryz.results175, go_sem, *]
     all_goals exact bwz
  ·have e1 : n9 = a9 := by rw [en]; (repeat' split) <;> omega
   have e2 : m9 = a9 + b9 := by rw [em]; (repeat' split) <;> omega
   rw [e1, e2] at KR
   clear en em e1 e2
   have y1 : ¬ 0 < a9 := by omega
   have y2 : 0 < b9 := by omega
   have y3 : ¬ b9 < 0 := by omega
   have y4 : (b9 == 0) = false := beq_eq_false_iff_ne.2 (by omega)
   have yk : (a9 == 0) = true := by rw [k0]; rfl
   have yl : ¬ a9 < 0 := by omega
   have y5 : sgn b9 = 1 := by unfold sgn; rw [if_pos y2]
   have y6 : sgn a9 = 0 := by unfold sgn; rw [if_neg y1, if_neg yl]
   clear k0
   go_enter Tryz.func175, Tryz.ntmps175
   go_upto_region 1 with fail
   go_cut [6] (fun s6 W => s6 = .int .i64 a9 ∧ W.cell? ⟨w.heap.size, 0, none⟩ = some (.int .i64 px) ∧ W.cell? ⟨w.heap.size, 1, none⟩ = some (.int .i64 py) ∧ W.cell? ⟨w.heap.size, 2, none⟩ = some (.int .i64 qx) ∧ W.cell? ⟨w.heap.size, 3, none⟩ = some (.int .i64 qy) ∧ W.cell? ⟨w.heap.size + 1, 0, none⟩ = some (.int .i64 ax) ∧ W.cell? ⟨w.heap.size + 1, 1, none⟩ = some (.int .i64 ay) ∧ W.cell? ⟨w.heap.size + 1, 2, none⟩ = some (.int .i64 bx) ∧ W.cell? ⟨w.heap.size + 1, 3, none⟩ = some (.int .i64 bY) ∧ W.cell? ⟨w.heap.size + 2, 0, none⟩ = some (.int .i64 0) ∧ W.frozen? ⟨w.heap.size + 2, 0, none⟩ = false ∧ W.cell? ⟨w.heap.size + 2, 1, none⟩ = some (.int .i64 0) ∧ W.frozen? ⟨w.heap.size + 2, 1, none⟩ = false ∧ Below w.heap.size w W ∧ w.heap.size + 3 ≤ W.heap.size)
   case first =>
    obtain ⟨wT, hT⟩ : ∃ W, W = (((w.alloc (.cells #[.int .i64 px, .int .i64 py, .int .i64 qx, .int .i64 qy] 91)).alloc (.cells #[.int .i64 ax, .int .i64 ay, .int .i64 bx, .int .i64 bY] 91)).alloc (.cells #[.int .i64 0, .int .i64 0] 94)) := ⟨_, rfl⟩
    have m0 : wT.cell? ⟨w.heap.size, 0, none⟩ = some (.int .i64 px) := by rw [hT]; go_simp
    have m1 : wT.cell? ⟨w.heap.size, 1, none⟩ = some (.int .i64 py) := by rw [hT]; go_simp
    have m2 : wT.cell? ⟨w.heap.size, 2, none⟩ = some (.int .i64 qx) := by rw [hT]; go_simp
    have m3 : wT.cell? ⟨w.heap.size, 3, none⟩ = some (.int .i64 qy) := by rw [hT]; go_simp
    have m4 : wT.cell? ⟨w.heap.size + 1, 0, none⟩ = some (.int .i64 ax) := by rw [hT]; go_simp
    have m5 : wT.cell? ⟨w.heap.size + 1, 1, none⟩ = some (.int .i64 ay) := by rw [hT]; go_simp
    have m6 : wT.cell? ⟨w.heap.size + 1, 2, none⟩ = some (.int .i64 bx) := by rw [hT]; go_simp
    have m7 : wT.cell? ⟨w.heap.size + 1, 3, none⟩ = some (.int .i64 bY) := by rw [hT]; go_simp
    have m8 : wT.cell? ⟨w.heap.size + 1 + 1, 0, none⟩ = some (.int .i64 0) := by rw [hT]; go_simp
    have m9 : wT.cell? ⟨w.heap.size + 1 + 1, 1, none⟩ = some (.int .i64 0) := by rw [hT]; go_simp
    have n0 : wT.frozen? ⟨w.heap.size + 1 + 1, 0, none⟩ = false := by rw [hT]; go_simp
    have n1 : wT.frozen? ⟨w.heap.size + 1 + 1, 1, none⟩ = false := by rw [hT]; go_simp
    have HBT := hide (show Below w.heap.size w wT by rw [hT]; exact bwz)
    have zT2 : w.heap.size + 1 + 1 < wT.heap.size := World.block_lt_of_cell? _ _ m8
    rw [← hT]
    clear hT
    have zT1 : w.heap.size + 1 < wT.heap.size := by omega
    have zT0 : w.heap.size < wT.heap.size := by omega
    refine wp_region_held_drew (S := fun W => Below wT.heap.size wT W) (by kernel_rfl) (Below.drew (Below.refl _ _)) (fun hHeld => ?_)
    refine tkN 0 (some 8) rfl ?_; simp only [pz]
    refine tkL 1 (some 9) rfl ?_; simp only [pz]
    refine tkN 2 (some 10) rfl ?_; simp only [pz]
    refine tkL 3 (some 11) rfl ?_; simp only [pz]
    refine tkN 5 (some 13) rfl ?_; simp only [pz]
    refine tkL 6 (some 14) rfl ?_; simp only [pz]
    refine tkN 7 (some 15) rfl ?_; simp only [pz]
    refine tkL 8 (some 16) rfl ?_; simp only [pz]
    refine rd1 4 (some 12) rfl (fun K hK => ?_)
    go_simp; (first | (go_at_call 90; (with_reducible refine (KM.out _).mono ?_); rintro e w9 ⟨rfl, hb⟩) | (go_at_call 90; (with_reducible refine (KN1.out _).mono ?_); rintro e w9 ⟨rfl, hb⟩))
    all_goals (try go_wp2_with fail)
    refine hK.out _ _ ?_ (fun hH2 => ?_)
    ·exact hhz
    clear hK K hHeld; (have hHeld := hH2); clear hH2; (try simp only [pz])
    refine rd1 9 (some 17) rfl (fun K hK => ?_)
    go_simp; (first | (go_at_call 90; (with_reducible refine (KM.out _).mono ?_); rintro e w9 ⟨rfl, hb⟩) | (go_at_call 90; (with_reducible refine (KN1.out _).mono ?_); rintro e w9 ⟨rfl, hb⟩))
    all_goals (try go_wp2_with fail)
    refine hK.out _ _ ?_ (fun hH2 => ?_)
    ·exact hhz
    clear hK K hHeld; (have hHeld := hH2); clear hH2; (try simp only [pz])
    refine rd1 10 (some 18) rfl (fun K hK => ?_)
    go_simp; (go_at_call 171; (with_reducible refine (K1.out _).mono ?_); rintro e w9 ⟨rfl, hb⟩)
    all_goals (try go_wp2_with fail)
    refine hK.out _ _ ?_ (fun hH2 => ?_)
    ·exact hhz
    clear hK K hHeld; (have hHeld := hH2); clear hH2; (try simp only [pz])
    refine tkN 11 (some 6) rfl ?_; simp only [pz]
    refine wpAnyH_done (by kernel_rfl) ?_ _; (try simp only [pz])
    go_wp2_with fail
    go_meet
    exact ⟨rfl, cell_later hHeld m0, cell_later hHeld m1, cell_later hHeld m2, cell_later hHeld m3, cell_later hHeld m4, cell_later hHeld m5, cell_later hHeld m6, cell_later hHeld m7, cell_later hHeld m8, frozen_later hHeld m8 n0, cell_later hHeld m9, frozen_later hHeld m9 n1, bstep HBT.out hHeld, (by have := hHeld.size; omega)⟩
   case rest =>
    obtain ⟨rfl, m0, m1, m2, m3, m4, m5, m6, m7, m8, n0, m9, n1, kB, kz⟩ := hcut
    obtain ⟨wS, rfl⟩ : ∃ W : World, W = wc := ⟨_, rfl⟩
    have HBT := hide kB
    have zT2 : w.heap.size + 1 + 1 < wS.heap.size := by omega
    have zT1 : w.heap.size + 1 < wS.heap.size := by omega
    have zT0 : w.heap.size < wS.heap.size := by omega
    clear kB kz
    go_upto_region 2 with fail
    go_cut [7] (fun s6 W => s6 = .int .i64 b9 ∧ W.cell? ⟨w.heap.size, 0, none⟩ = some (.int .i64 px) ∧ W.cell? ⟨w.heap.size, 1, none⟩ = some (.int .i64 py) ∧ W.cell? ⟨w.heap.size, 2, none⟩ = some (.int .i64 qx) ∧ W.cell? ⟨w.heap.size, 3, none⟩ = some (.int .i64 qy) ∧ W.cell? ⟨w.heap.size + 1, 0, none⟩ = some (.int .i64 ax) ∧ W.cell? ⟨w.heap.size + 1, 1, none⟩ = some (.int .i64 ay) ∧ W.cell? ⟨w.heap.size + 1, 2, none⟩ = some (.int .i64 bx) ∧ W.cell? ⟨w.heap.size + 1, 3, none⟩ = some (.int .i64 bY) ∧ W.cell? ⟨w.heap.size + 2, 0, none⟩ = some (.int .i64 0) ∧ W.frozen? ⟨w.heap.size + 2, 0, none⟩ = false ∧ W.cell? ⟨w.heap.size + 2, 1, none⟩ = some (.int .i64 0) ∧ W.frozen? ⟨w.heap.size + 2, 1, none⟩ = false ∧ Below w.heap.size w W ∧ w.heap.size + 3 ≤ W.heap.size)
    case first =>
     refine wp_region_held_drew (S := fun W => Below wS.heap.size wS W) (by kernel_rfl) (Below.drew (Below.refl _ _)) (fun hHeld => ?_)
     refine tkN 0 (some 19) rfl ?_; simp only [pz]
     refine tkL 1 (some 20) rfl ?_; simp only [pz]
     refine tkN 2 (some 21) rfl ?_; simp only [pz]
     refine tkL 3 (some 22) rfl ?_; simp only [pz]
     refine tkN 5 (some 24) rfl ?_; simp only [pz]
     refine tkL 6 (some 25) rfl ?_; simp only [pz]
     refine tkN 7 (some 26) rfl ?_; simp only [pz]
     refine tkL 8 (some 27) rfl ?_; simp only [pz]
     refine rd1 4 (some 23) rfl (fun K hK => ?_)
     go_simp; (first | (go_at_call 90; (with_reducible refine (KM.out _).mono ?_); rintro e w9 ⟨rfl, hb⟩) | (go_at_call 90; (with_reducible refine (KN2.out _).mono ?_); rintro e w9 ⟨rfl, hb⟩))
     all_goals (try go_wp2_with fail)
     refine hK.out _ _ ?_ (fun hH2 => ?_)
     ·exact hhz
     clear hK K hHeld; (have hHeld := hH2); clear hH2; (try simp only [pz])
     refine rd1 9 (some 28) rfl (fun K hK => ?_)
     go_simp; (first | (go_at_call 90; (with_reducible refine (KM.out _).mono ?_); rintro e w9 ⟨rfl, hb⟩) | (go_at_call 90; (with_reducible refine (KN2.out _).mono ?_); rintro e w9 ⟨rfl, hb⟩))
     all_goals (try go_wp2_with fail)
     refine hK.out _ _ ?_ (fun hH2 => ?_)
     ·exact hhz
     clear hK K hHeld; (have hHeld := hH2); clear hH2; (try simp only [pz])
     refine rd1 10 (some 29) rfl (fun K hK => ?_)
     go_simp; (go_at_call 171; (with_reducible refine (K2.out _).mono ?_); rintro e w9 ⟨rfl, hb⟩)
     all_goals (try go_wp2_with fail)
     refine hK.out _ _ ?_ (fun hH2 => ?_)
     ·exact hhz
     clear hK K hHeld; (have hHeld := hH2); clear hH2; (try simp only [pz])
     refine tkN 11 (some 7) rfl ?_; simp only [pz]
     refine wpAnyH_done (by kernel_rfl) ?_ _; (try simp only [pz])
     go_wp2_with fail
     go_meet
     exact ⟨rfl, cell_later hHeld m0, cell_later hHeld m1, cell_later hHeld m2, cell_later hHeld m3, cell_later hHeld m4, cell_later hHeld m5, cell_later hHeld m6, cell_later hHeld m7, cell_later hHeld m8, frozen_later hHeld m8 n0, cell_later hHeld m9, frozen_later hHeld m9 n1, bstep HBT.out hHeld, (by have := hHeld.size; omega)⟩
    case rest =>
     obtain ⟨rfl, m0, m1, m2, m3, m4, m5, m6, m7, m8, n0, m9, n1, kB, kz⟩ := hcut
     obtain ⟨wR, rfl⟩ : ∃ W : World, W = wc := ⟨_, rfl⟩
     have HBT := hide kB
     have zT2 : w.heap.size + 1 + 1 < wR.heap.size := by omega
     have zT1 : w.heap.size + 1 < wR.heap.size := by omega
     have zT0 : w.heap.size < wR.heap.size := by omega
     clear kB kz
     have kB := HBT.out
     go_wp2_with (first | (go_at_call 170; (with_reducible refine (spec_l01Sign _ _).mono ?_); rintro e w9 ⟨rfl, rfl⟩) | (go_at_call 138; (with_reducible refine (KR.out _).mono ?_); rintro e w9 ⟨rfl, hb⟩; obtain ⟨hc, hf⟩ := bcell hb; have hz9 := hb.size; have zU2 : w.heap.size + 1 + 1 < w9.heap.size := (by omega)))
     simp [bodyPost, results, Tryz.results175, go_sem, *]
     all_goals exact bwz
 ·rcases Int.lt_or_eq_of_le p2 with k0 | k0
  ·have e1 : n9 = a9 := by rw [en]; (repeat' split) <;> omega
   have e2 : m9 = a9 + -b9 := by rw [em]; (repeat' split) <;> omega
   rw [e1, e2] at KR
   clear en em e1 e2
   have y1 : 0 < a9 := by omega
   have y2 : ¬ 0 < b9 := by omega
   have y3 : ¬ a9 < 0 := by omega
   have y4 : (a9 == 0) = false := beq_eq_false_iff_ne.2 (by omega)
   have yk : (b9 == 0) = false := beq_eq_false_iff_ne.2 (by omega)
   have yl : b9 < 0 := by omega
   have y5 : sgn a9 = 1 := by unfold sgn; rw [if_pos y1]
   have y6 : sgn b9 = -1 := by unfold sgn; rw [if_neg y2, if_pos yl]
   clear k0
   go_enter Tryz.func175, Tryz.ntmps175
   go_upto_region 1 with fail
   go_cut [6] (fun s6 W => s6 = .int .i64 a9 ∧ W.cell? ⟨w.heap.size, 0, none⟩ = some (.int .i64 px) ∧ W.cell? ⟨w.heap.size, 1, none⟩ = some (.int .i64 py) ∧ W.cell? ⟨w.heap.size, 2, none⟩ = some (.int .i64 qx) ∧ W.cell? ⟨w.heap.size, 3, none⟩ = some (.int .i64 qy) ∧ W.cell? ⟨w.heap.size + 1, 0, none⟩ = some (.int .i64 ax) ∧ W.cell? ⟨w.heap.size + 1, 1, none⟩ = some (.int .i64 ay) ∧ W.cell? ⟨w.heap.size + 1, 2, none⟩ = some (.int .i64 bx) ∧ W.cell? ⟨w.heap.size + 1, 3, none⟩ = some (.int .i64 bY) ∧ W.cell? ⟨w.heap.size + 2, 0, none⟩ = some (.int .i64 0) ∧ W.frozen? ⟨w.heap.size + 2, 0, none⟩ = false ∧ W.cell? ⟨w.heap.size + 2, 1, none⟩ = some (.int .i64 0) ∧ W.frozen? ⟨w.heap.size + 2, 1, none⟩ = false ∧ Below w.heap.size w W ∧ w.heap.size + 3 ≤ W.heap.size)
   case first =>
    obtain ⟨wT, hT⟩ : ∃ W, W = (((w.alloc (.cells #[.int .i64 px, .int .i64 py, .int .i64 qx, .int .i64 qy] 91)).alloc (.cells #[.int .i64 ax, .int .i64 ay, .int .i64 bx, .int .i64 bY] 91)).alloc (.cells #[.int .i64 0, .int .i64 0] 94)) := ⟨_, rfl⟩
    have m0 : wT.cell? ⟨w.heap.size, 0, none⟩ = some (.int .i64 px) := by rw [hT]; go_simp
    have m1 : wT.cell? ⟨w.heap.size, 1, none⟩ = some (.int .i64 py) := by rw [hT]; go_simp
    have m2 : wT.cell? ⟨w.heap.size, 2, none⟩ = some (.int .i64 qx) := by rw [hT]; go_simp
    have m3 : wT.cell? ⟨w.heap.size, 3, none⟩ = some (.int .i64 qy) := by rw [hT]; go_simp
    have m4 : wT.cell? ⟨w.heap.size + 1, 0, none⟩ = some (.int .i64 ax) := by rw [hT]; go_simp
    have m5 : wT.cell? ⟨w.heap.size + 1, 1, none⟩ = some (.int .i64 ay) := by rw [hT]; go_simp
    have m6 : wT.cell? ⟨w.heap.size + 1, 2, none⟩ = some (.int .i64 bx) := by rw [hT]; go_simp
    have m7 : wT.cell? ⟨w.heap.size + 1, 3, none⟩ = some (.int .i64 bY) := by rw [hT]; go_simp
    have m8 : wT.cell? ⟨w.heap.size + 1 + 1, 0, none⟩ = some (.int .i64 0) := by rw [hT]; go_simp
    have m9 : wT.cell? ⟨w.heap.size + 1 + 1, 1, none⟩ = some (.int .i64 0) := by rw [hT]; go_simp
    have n0 : wT.frozen? ⟨w.heap.size + 1 + 1, 0, none⟩ = false := by rw [hT]; go_simp
    have n1 : wT.frozen? ⟨w.heap.size + 1 + 1, 1, none⟩ = false := by rw [hT]; go_simp
    have HBT := hide (show Below w.heap.size w wT by rw [hT]; exact bwz)
    have zT2 : w.heap.size + 1 + 1 < wT.heap.size := World.block_lt_of_cell? _ _ m8
    rw [← hT]
    clear hT
    have zT1 : w.heap.size + 1 < wT.heap.size := by omega
    have zT0 : w.heap.size < wT.heap.size := by omega
    refine wp_region_held_drew (S := fun W => Below wT.heap.size wT W) (by kernel_rfl) (Below.drew (Below.refl _ _)) (fun hHeld => ?_)
    refine tkN 0 (some 8) rfl ?_; simp only [pz]
    refine tkL 1 (some 9) rfl ?_; simp only [pz]
    refine tkN 2 (some 10) rfl ?_; simp only [pz]
    refine tkL 3 (some 11) rfl ?_; simp only [pz]
    refine tkN 5 (some 13) rfl ?_; simp only [pz]
    refine tkL 6 (some 14) rfl ?_; simp only [pz]
    refine tkN 7 (some 15) rfl ?_; simp only [pz]
    refine tkL 8 (some 16) rfl ?_; simp only [pz]
    refine rd1 4 (some 12) rfl (fun K hK => ?_)
    go_simp; (first | (go_at_call 90; (with_reducible refine (KM.out _).mono ?_); rintro e w9 ⟨rfl, hb⟩) | (go_at_call 90; (with_reducible refine (KN1.out _).mono ?_); rintro e w9 ⟨rfl, hb⟩))
    all_goals (try go_wp2_with fail)
    refine hK.out _ _ ?_ (fun hH2 => ?_)
    ·exact hhz
    clear hK K hHeld; (have hHeld := hH2); clear hH2; (try simp only [pz])
    refine rd1 9 (some 17) rfl (fun K hK => ?_)
    go_simp; (first | (go_at_call 90; (with_reducible refine (KM.out _).mono ?_); rintro e w9 ⟨rfl, hb⟩) | (go_at_call 90; (with_reducible refine (KN1.out _).mono ?_); rintro e w9 ⟨rfl, hb⟩))
    all_goals (try go_wp2_with fail)
    refine hK.out _ _ ?_ (fun hH2 => ?_)
    ·exact hhz
    clear hK K hHeld; (have hHeld := hH2); clear hH2; (try simp only [pz])
    refine rd1 10 (some 18) rfl (fun K hK => ?_)
    go_simp; (go_at_call 171; (with_reducible refine (K1.out _).mono ?_); rintro e w9 ⟨rfl, hb⟩)
    all_goals (try go_wp2_with fail)
    refine hK.out _ _ ?_ (fun hH2 => ?_)
    ·exact hhz
    clear hK K hHeld; (have hHeld := hH2); clear hH2; (try simp only [pz])
    refine tkN 11 (some 6) rfl ?_; simp only [pz]
    refine wpAnyH_done (by kernel_rfl) ?_ _; (try simp only [pz])
    go_wp2_with fail
    go_meet
    exact ⟨rfl, cell_later hHeld m0, cell_later hHeld m1, cell_later hHeld m2, cell_later hHeld m3, cell_later hHeld m4, cell_later hHeld m5, cell_later hHeld m6, cell_later hHeld m7, cell_later hHeld m8, frozen_later hHeld m8 n0, cell_later hHeld m9, frozen_later hHeld m9 n1, bstep HBT.out hHeld, (by have := hHeld.size; omega)⟩
   case rest =>
    obtain ⟨rfl, m0, m1, m2, m3, m4, m5, m6, m7, m8, n0, m9, n1, kB, kz⟩ := hcut
    obtain ⟨wS, rfl⟩ : ∃ W : World, W = wc := ⟨_, rfl⟩
    have HBT := hide kB
    have zT2 : w.heap.size + 1 + 1 < wS.heap.size := by omega
    have zT1 : w.heap.size + 1 < wS.heap.size := by omega
    have zT0 : w.heap.size < wS.heap.size := by omega
    clear kB kz
    go_upto_region 2 with fail
    go_cut [7] (fun s6 W => s6 = .int .i64 b9 ∧ W.cell? ⟨w.heap.size, 0, none⟩ = some (.int .i64 px) ∧ W.cell? ⟨w.heap.size, 1, none⟩ = some (.int .i64 py) ∧ W.cell? ⟨w.heap.size, 2, none⟩ = some (.int .i64 qx) ∧ W.cell? ⟨w.heap.size, 3, none⟩ = some (.int .i64 qy) ∧ W.cell? ⟨w.heap.size + 1, 0, none⟩ = some (.int .i64 ax) ∧ W.cell? ⟨w.heap.size + 1, 1, none⟩ = some (.int .i64 ay) ∧ W.cell? ⟨w.heap.size + 1, 2, none⟩ = some (.int .i64 bx) ∧ W.cell? ⟨w.heap.size + 1, 3, none⟩ = some (.int .i64 bY) ∧ W.cell? ⟨w.heap.size + 2, 0, none⟩ = some (.int .i64 0) ∧ W.frozen? ⟨w.heap.size + 2, 0, none⟩ = false ∧ W.cell? ⟨w.heap.size + 2, 1, none⟩ = some (.int .i64 0) ∧ W.frozen? ⟨w.heap.size + 2, 1, none⟩ = false ∧ Below w.heap.size w W ∧ w.heap.size + 3 ≤ W.heap.size)
    case first =>
     refine wp_region_held_drew (S := fun W => Below wS.heap.size wS W) (by kernel_rfl) (Below.drew (Below.refl _ _)) (fun hHeld => ?_)
     refine tkN 0 (some 19) rfl ?_; simp only [pz]
     refine tkL 1 (some 20) rfl ?_; simp only [pz]
     refine tkN 2 (some 21) rfl ?_; simp only [pz]
     refine tkL 3 (some 22) rfl ?_; simp only [pz]
     refine tkN 5 (some 24) rfl ?_; simp only [pz]
     refine tkL 6 (some 25) rfl ?_; simp only [pz]
     refine tkN 7 (some 26) rfl ?_; simp only [pz]
     refine tkL 8 (some 27) rfl ?_; simp only [pz]
     refine rd1 4 (some 23) rfl (fun K hK => ?_)
     go_simp; (first | (go_at_call 90; (with_reducible refine (KM.out _).mono ?_); rintro e w9 ⟨rfl, hb⟩) | (go_at_call 90; (with_reducible refine (KN2.out _).mono ?_); rintro e w9 ⟨rfl, hb⟩))
     all_goals (try go_wp2_with fail)
     refine hK.out _ _ ?_ (fun hH2 => ?_)
     ·exact hhz
     clear hK K hHeld; (have hHeld := hH2); clear hH2; (try simp only [pz])
     refine rd1 9 (some 28) rfl (fun K hK => ?_)
     go_simp; (first | (go_at_call 90; (with_reducible refine (KM.out _).mono ?_); rintro e w9 ⟨rfl, hb⟩) | (go_at_call 90; (with_reducible refine (KN2.out _).mono ?_); rintro e w9 ⟨rfl, hb⟩))
     all_goals (try go_wp2_with fail)
     refine hK.out _ _ ?_ (fun hH2 => ?_)
     ·exact hhz
     clear hK K hHeld; (have hHeld := hH2); clear hH2; (try simp only [pz])
     refine rd1 10 (some 29) rfl (fun K hK => ?_)
     go_simp; (go_at_call 171; (with_reducible refine (K2.out _).mono ?_); rintro e w9 ⟨rfl, hb⟩)
     all_goals (try go_wp2_with fail)
     refine hK.out _ _ ?_ (fun hH2 => ?_)
     ·exact hhz
     clear hK K hHeld; (have hHeld := hH2); clear hH2; (try simp only [pz])
     refine tkN 11 (some 7) rfl ?_; simp only [pz]
     refine wpAnyH_done (by kernel_rfl) ?_ _; (try simp only [pz])
     go_wp2_with fail
     go_meet
     exact ⟨rfl, cell_later hHeld m0, cell_later hHeld m1, cell_later hHeld m2, cell_later hHeld m3, cell_later hHeld m4, cell_later hHeld m5, cell_later hHeld m6, cell_later hHeld m7, cell_later hHeld m8, frozen_later hHeld m8 n0, cell_later hHeld m9, frozen_later hHeld m9 n1, bstep HBT.out hHeld, (by have := hHeld.size; omega)⟩
    case rest =>
     obtain ⟨rfl, m0, m1, m2, m3, m4, m5, m6, m7, m8, n0, m9, n1, kB, kz⟩ := hcut
     obtain ⟨wR, rfl⟩ : ∃ W : World, W = wc := ⟨_, rfl⟩
     have HBT := hide kB
     have zT2 : w.heap.size + 1 + 1 < wR.heap.size := by omega
     have zT1 : w.heap.size + 1 < wR.heap.size := by omega
     have zT0 : w.heap.size < wR.heap.size := by omega
     clear kB kz
     have kB := HBT.out
     go_wp2_with (first | (go_at_call 170; (with_reducible refine (spec_l01Sign _ _).mono ?_); rintro e w9 ⟨rfl, rfl⟩) | (go_at_call 138; (with_reducible refine (KR.out _).mono ?_); rintro e w9 ⟨rfl, hb⟩; obtain ⟨hc, hf⟩ := bcell hb; have hz9 := hb.size; have zU2 : w.heap.size + 1 + 1 < w9.heap.size := (by omega)))
     simp [bodyPost, results, Tryz.results175, go_sem, *]
     all_goals exact bwz
  ·have e1 : n9 = a9 := by rw [en]; (repeat' split) <;> omega
   have e2 : m9 = a9 + b9 := by rw [em]; (repeat' split) <;> omega
   rw [e1, e2] at KR
   clear en em e1 e2
   have y1 : 0 < a9 := by omega
   have y2 : ¬ 0 < b9 := by omega
   have y3 : ¬ a9 < 0 := by omega
   have y4 : (a9 == 0) = false := beq_eq_false_iff_ne.2 (by omega)
   have yk : (b9 == 0) = true := by rw [k0]; rfl
   have yl : ¬ b9 < 0 := by omega
   have y5 : sgn a9 = 1 := by unfold sgn; rw [if_pos y1]
   have y6 : sgn b9 = 0 := by unfold sgn; rw [if_neg y2, if_neg yl]
   clear k0
   go_enter Tryz.func175, Tryz.ntmps175
   go_upto_region 1 with fail
   go_cut [6] (fun s6 W => s6 = .int .i64 a9 ∧ W.cell? ⟨w.heap.size, 0, none⟩ = some (.int .i64 px) ∧ W.cell? ⟨w.heap.size, 1, none⟩ = some (.int .i64 py) ∧ W.cell? ⟨w.heap.size, 2, none⟩ = some (.int .i64 qx) ∧ W.cell? ⟨w.heap.size, 3, none⟩ = some (.int .i64 qy) ∧ W.cell? ⟨w.heap.size + 1, 0, none⟩ = some (.int .i64 ax) ∧ W.cell? ⟨w.heap.size + 1, 1, none⟩ = some (.int .i64 ay) ∧ W.cell? ⟨w.heap.size + 1, 2, none⟩ = some (.int .i64 bx) ∧ W.cell? ⟨w.heap.size + 1, 3, none⟩ = some (.int .i64 bY) ∧ W.cell? ⟨w.heap.size + 2, 0, none⟩ = some (.int .i64 0) ∧ W.frozen? ⟨w.heap.size + 2, 0, none⟩ = false ∧ W.cell? ⟨w.heap.size + 2, 1, none⟩ = some (.int .i64 0) ∧ W.frozen? ⟨w.heap.size + 2, 1, none⟩ = false ∧ Below w.heap.size w W ∧ w.heap.size + 3 ≤ W.heap.size)
   case first =>
    obtain ⟨wT, hT⟩ : ∃ W, W = (((w.alloc (.cells #[.int .i64 px, .int .i64 py, .int .i64 qx, .int .i64 qy] 91)).alloc (.cells #[.int .i64 ax, .int .i64 ay, .int .i64 bx, .int .i64 bY] 91)).alloc (.cells #[.int .i64 0, .int .i64 0] 94)) := ⟨_, rfl⟩
    have m0 : wT.cell? ⟨w.heap.size, 0, none⟩ = some (.int .i64 px) := by rw [hT]; go_simp
    have m1 : wT.cell? ⟨w.heap.size, 1, none⟩ = some (.int .i64 py) := by rw [hT]; go_simp
    have m2 : wT.cell? ⟨w.heap.size, 2, none⟩ = some (.int .i64 qx) := by rw [hT]; go_simp
    have m3 : wT.cell? ⟨w.heap.size, 3, none⟩ = some (.int .i64 qy) := by rw [hT]; go_simp
    have m4 : wT.cell? ⟨w.heap.size + 1, 0, none⟩ = some (.int .i64 ax) := by rw [hT]; go_simp
    have m5 : wT.cell? ⟨w.heap.size + 1, 1, none⟩ = some (.int .i64 ay) := by rw [hT]; go_simp
    have m6 : wT.cell? ⟨w.heap.size + 1, 2, none⟩ = some (.int .i64 bx) := by rw [hT]; go_simp
    have m7 : wT.cell? ⟨w.heap.size + 1, 3, none⟩ = some (.int .i64 bY) := by rw [hT]; go_simp
    have m8 : wT.cell? ⟨w.heap.size + 1 + 1, 0, none⟩ = some (.int .i64 0) := by rw [hT]; go_simp
    have m9 : wT.cell? ⟨w.heap.size + 1 + 1, 1, none⟩ = some (.int .i64 0) := by rw [hT]; go_simp
    have n0 : wT.frozen? ⟨w.heap.size + 1 + 1, 0, none⟩ = false := by rw [hT]; go_simp
    have n1 : wT.frozen? ⟨w.heap.size + 1 + 1, 1, none⟩ = false := by rw [hT]; go_simp
    have HBT := hide (show Below w.heap.size w wT by rw [hT]; exact bwz)
    have zT2 : w.heap.size + 1 + 1 < wT.heap.size := World.block_lt_of_cell? _ _ m8
    rw [← hT]
    clear hT
    have zT1 : w.heap.size + 1 < wT.heap.size := by omega
    have zT0 : w.heap.size < wT.heap.size := by omega
    refine wp_region_held_drew (S := fun W => Below wT.heap.size wT W) (by kernel_rfl) (Below.drew (Below.refl _ _)) (fun hHeld => ?_)
    refine tkN 0 (some 8) rfl ?_; simp only [pz]
    refine tkL 1 (some 9) rfl ?_; simp only [pz]
    refine tkN 2 (some 10) rfl ?_; simp only [pz]
    refine tkL 3 (some 11) rfl ?_; simp only [pz]
    refine tkN 5 (some 13) rfl ?_; simp only [pz]
    refine tkL 6 (some 14) rfl ?_; simp only [pz]
    refine tkN 7 (some 15) rfl ?_; simp only [pz]
    refine tkL 8 (some 16) rfl ?_; simp only [pz]
    refine rd1 4 (some 12) rfl (fun K hK => ?_)
    go_simp; (first | (go_at_call 90; (with_reducible refine (KM.out _).mono ?_); rintro e w9 ⟨rfl, hb⟩) | (go_at_call 90; (with_reducible refine (KN1.out _).mono ?_); rintro e w9 ⟨rfl, hb⟩))
    all_goals (try go_wp2_with fail)
    refine hK.out _ _ ?_ (fun hH2 => ?_)
    ·exact hhz
    clear hK K hHeld; (have hHeld := hH2); clear hH2; (try simp only [pz])
    refine rd1 9 (some 17) rfl (fun K hK => ?_)
    go_simp; (first | (go_at_call 90; (with_reducible refine (KM.out _).mono ?_); rintro e w9 ⟨rfl, hb⟩) | (go_at_call 90; (with_reducible refine (KN1.out _).mono ?_); rintro e w9 ⟨rfl, hb⟩))
    all_goals (try go_wp2_with fail)
    refine hK.out _ _ ?_ (fun hH2 => ?_)
    ·exact hhz
    clear hK K hHeld; (have hHeld := hH2); clear hH2; (try simp only [pz])
    refine rd1 10 (some 18) rfl (fun K hK => ?_)
    go_simp; (go_at_call 171; (with_reducible refine (K1.out _).mono ?_); rintro e w9 ⟨rfl, hb⟩)
    all_goals (try go_wp2_with fail)
    refine hK.out _ _ ?_ (fun hH2 => ?_)
    ·exact hhz
    clear hK K hHeld; (have hHeld := hH2); clear hH2; (try simp only [pz])
    refine tkN 11 (some 6) rfl ?_; simp only [pz]
    refine wpAnyH_done (by kernel_rfl) ?_ _; (try simp only [pz])
    go_wp2_with fail
    go_meet
    exact ⟨rfl, cell_later hHeld m0, cell_later hHeld m1, cell_later hHeld m2, cell_later hHeld m3, cell_later hHeld m4, cell_later hHeld m5, cell_later hHeld m6, cell_later hHeld m7, cell_later hHeld m8, frozen_later hHeld m8 n0, cell_later hHeld m9, frozen_later hHeld m9 n1, bstep HBT.out hHeld, (by have := hHeld.size; omega)⟩
   case rest =>
    obtain ⟨rfl, m0, m1, m2, m3, m4, m5, m6, m7, m8, n0, m9, n1, kB, kz⟩ := hcut
    obtain ⟨wS, rfl⟩ : ∃ W : World, W = wc := ⟨_, rfl⟩
    have HBT := hide kB
    have zT2 : w.heap.size + 1 + 1 < wS.heap.size := by omega
    have zT1 : w.heap.size + 1 < wS.heap.size := by omega
    have zT0 : w.heap.size < wS.heap.size := by omega
    clear kB kz
    go_upto_region 2 with fail
    go_cut [7] (fun s6 W => s6 = .int .i64 b9 ∧ W.cell? ⟨w.heap.size, 0, none⟩ = some (.int .i64 px) ∧ W.cell? ⟨w.heap.size, 1, none⟩ = some (.int .i64 py) ∧ W.cell? ⟨w.heap.size, 2, none⟩ = some (.int .i64 qx) ∧ W.cell? ⟨w.heap.size, 3, none⟩ = some (.int .i64 qy) ∧ W.cell? ⟨w.heap.size + 1, 0, none⟩ = some (.int .i64 ax) ∧ W.cell? ⟨w.heap.size + 1, 1, none⟩ = some (.int .i64 ay) ∧ W.cell? ⟨w.heap.size + 1, 2, none⟩ = some (.int .i64 bx) ∧ W.cell? ⟨w.heap.size + 1, 3, none⟩ = some (.int .i64 bY) ∧ W.cell? ⟨w.heap.size + 2, 0, none⟩ = some (.int .i64 0) ∧ W.frozen? ⟨w.heap.size + 2, 0, none⟩ = false ∧ W.cell? ⟨w.heap.size + 2, 1, none⟩ = some (.int .i64 0) ∧ W.frozen? ⟨w.heap.size + 2, 1, none⟩ = false ∧ Below w.heap.size w W ∧ w.heap.size + 3 ≤ W.heap.size)
    case first =>
     refine wp_region_held_drew (S := fun W => Below wS.heap.size wS W) (by kernel_rfl) (Below.drew (Below.refl _ _)) (fun hHeld => ?_)
     refine tkN 0 (some 19) rfl ?_; simp only [pz]
     refine tkL 1 (some 20) rfl ?_; simp only [pz]
     refine tkN 2 (some 21) rfl ?_; simp only [pz]
     refine tkL 3 (some 22) rfl ?_; simp only [pz]
     refine tkN 5 (some 24) rfl ?_; simp only [pz]
     refine tkL 6 (some 25) rfl ?_; simp only [pz]
     refine tkN 7 (some 26) rfl ?_; simp only [pz]
     refine tkL 8 (some 27) rfl ?_; simp only [pz]
     refine rd1 4 (some 23) rfl (fun K hK => ?_)
     go_simp; (first | (go_at_call 90; (with_reducible refine (KM.out _).mono ?_); rintro e w9 ⟨rfl, hb⟩) | (go_at_call 90; (with_reducible refine (KN2.out _).mono ?_); rintro e w9 ⟨rfl, hb⟩))
     all_goals (try go_wp2_with fail)
     refine hK.out _ _ ?_ (fun hH2 => ?_)
     ·exact hhz
     clear hK K hHeld; (have hHeld := hH2); clear hH2; (try simp only [pz])
     refine rd1 9 (some 28) rfl (fun K hK => ?_)
     go_simp; (first | (go_at_call 90; (with_reducible refine (KM.out _).mono ?_); rintro e w9 ⟨rfl, hb⟩) | (go_at_call 90; (with_reducible refine (KN2.out _).mono ?_); rintro e w9 ⟨rfl, hb⟩))
     all_goals (try go_wp2_with fail)
     refine hK.out _ _ ?_ (fun hH2 => ?_)
     ·exact hhz
     clear hK K hHeld; (have hHeld := hH2); clear hH2; (try simp only [pz])
     refine rd1 10 (some 29) rfl (fun K hK => ?_)
     go_simp; (go_at_call 171; (with_reducible refine (K2.out _).mono ?_); rintro e w9 ⟨rfl, hb⟩)
     all_goals (try go_wp2_with fail)
     refine hK.out _ _ ?_ (fun hH2 => ?_)
     ·exact hhz
     clear hK K hHeld; (have hHeld := hH2); clear hH2; (try simp only [pz])
     refine tkN 11 (some 7) rfl ?_; simp only [pz]
     refine wpAnyH_done (by kernel_rfl) ?_ _; (try simp only [pz])
     go_wp2_with fail
     go_meet
     exact ⟨rfl, cell_later hHeld m0, cell_later hHeld m1, cell_later hHeld m2, cell_later hHeld m3, cell_later hHeld m4, cell_later hHeld m5, cell_later hHeld m6, cell_later hHeld m7, cell_later hHeld m8, frozen_later hHeld m8 n0, cell_later hHeld m9, frozen_later hHeld m9 n1, bstep HBT.out hHeld, (by have := hHeld.size; omega)⟩
    case rest =>
     obtain ⟨rfl, m0, m1, m2, m3, m4, m5, m6, m7, m8, n0, m9, n1, kB, kz⟩ := hcut
     obtain ⟨wR, rfl⟩ : ∃ W : World, W = wc := ⟨_, rfl⟩
     have HBT := hide kB
     have zT2 : w.heap.size + 1 + 1 < wR.heap.size := by omega
     have zT1 : w.heap.size + 1 < wR.heap.size := by omega
     have zT0 : w.heap.size < wR.heap.size := by omega
     clear kB kz
     have kB := HBT.out
     go_wp2_with (first | (go_at_call 170; (with_reducible refine (spec_l01Sign _ _).mono ?_); rintro e w9 ⟨rfl, rfl⟩) | (go_at_call 138; (with_reducible refine (KR.out _).mono ?_); rintro e w9 ⟨rfl, hb⟩; obtain ⟨hc, hf⟩ := bcell hb; have hz9 := hb.size; have zU2 : w.heap.size + 1 + 1 < w9.heap.size := (by omega)))
     simp [bodyPost, results, Tryz.results175, go_sem, *]
     all_goals exact bwz
theorem dv_step {q r d m n p c : Int} (_ : 0 < m) (hq : m * q + r = p * d) (hn : n = 1000 * p + c) : m * (1000 * q + (r * 1000 + c * d) / m) + (r * 1000 + c * d) % m = n * d := by
 have e := Int.emod_add_mul_ediv (r * 1000 + c * d) m
 generalize (r * 1000 + c * d) / m = x at *
 generalize (r * 1000 + c * d) % m = y at *
 subst hn
 grind
set_option maxRecDepth 100000 in
set_option maxHeartbeats 8000000 in
theorem spec_l05Divide (n g m : Int) (n0 : 0 ≤ n) (n1 : n ≤ 1000000000) (g0 : 0 ≤ g) (g1 : g ≤ m) (m1 : 1 ≤ m) (m2 : m ≤ 20000000000000) (w : World) :
 Calls Tryz.prog 192 #[.int .i64 n, .agg #[.int .i64 g, .int .i64 m]] w fun e w' => e = .returned (.tuple #[.int .i64 (n * g / m), .int .i64 (n * g % m)]) ∧ Below w.heap.size w w' := by
 have hm0 : (m == 0) = false := beq_eq_false_iff_ne.2 (by omega)
 have hm1 : (m == -1) = false := beq_eq_false_iff_ne.2 (by omega)
 have hfin : ∀ q r : Int, 0 ≤ r → r < m → m * q + r = n * g → q = n * g / m ∧ r = n * g % m := fun q r h1 h2 h3 => by
  rw [← h3, Int.add_comm, Int.add_mul_ediv_left _ _ (by omega), Int.ediv_eq_zero_of_lt h1 h2, Int.add_mul_emod_self_left, Int.emod_eq_of_lt h1 h2]
  exact ⟨by omega, rfl⟩
 have Hfin := hide hfin
 clear hfin
 go_enter Tryz.func192, Tryz.ntmps192
 go_wp2
 go_loopw [6, 7, 8] (fun s6 s7 s8 wr => ∃ (q r sc p : Int), s6 = .int .i64 q ∧ s7 = .int .i64 r ∧ s8 = .int .i64 sc ∧ ((sc = 1000000000 ∧ p = 0) ∨ (sc = 1000000 ∧ p = n / 1000000000) ∨ (sc = 1000 ∧ p = n / 1000000) ∨ (sc = 1 ∧ p = n / 1000) ∨ (sc = 0 ∧ p = n)) ∧ Hid (m * q + r = p * g) ∧ 0 ≤ q ∧ q ≤ p ∧ 0 ≤ r ∧ r < m ∧ wr.cell? ⟨w.heap.size, 0, none⟩ = some (.int .i64 g) ∧ wr.cell? ⟨w.heap.size, 1, none⟩ = some (.int .i64 m) ∧ Below w.heap.size w wr) (fun _ _ s _ => (intOf s).toNat)
 case atStart => exact ⟨0, 0, 1000000000, 0, rfl, rfl, rfl, .inl ⟨rfl, rfl⟩, hide (by omega), by omega, by omega, by omega, by omega, by go_simp, by go_simp, bwz⟩
 case round =>
  obtain ⟨q, r, sc, p, rfl, rfl, rfl, hsc, HQ, q0, q1, r0, r1, c0, c1, hbl⟩ := hrel
  have zr0 : w.heap.size < wr.heap.size := World.block_lt_of_cell? _ _ c0
  rcases hsc with ⟨rfl, rfl⟩ | ⟨rfl, rfl⟩ | ⟨rfl, rfl⟩ | ⟨rfl, rfl⟩ | ⟨rfl, rfl⟩
  ·obtain ⟨c, hc⟩ : ∃ c, c = n / 1000000000 % 1000 := ⟨_, rfl⟩
   have hcb : 0 ≤ c ∧ c ≤ 999 := by omega
   have hpc : n / 1000000000 = 1000 * (0) + c := by omega
   obtain ⟨x1, x2⟩ := nn_bd 999 20000000000000 19980000000000000 hcb.1 hcb.2 g0 (by omega) (by decide)
   have hst := hide (dv_step (by omega) HQ.out hpc)
   have y0 : 0 ≤ (r * 1000 + c * g) / m := Int.ediv_nonneg (by omega) (by omega)
   have y1 : 0 ≤ (r * 1000 + c * g) % m := Int.emod_nonneg _ (by omega)
   have y2 : (r * 1000 + c * g) % m < m := Int.emod_lt_of_pos _ (by omega)
   have y3 : (r * 1000 + c * g) / m ≤ r * 1000 + c * g := Int.ediv_le_self _ (by omega)
   have y4 : 1000 * q + (r * 1000 + c * g) / m ≤ n / 1000000000 := by
    have e := hst.out
    have e2 := Int.mul_le_mul_of_nonneg_left g1 (show 0 ≤ n / 1000000000 by omega)
    rw [Int.mul_comm (n / 1000000000) m] at e2
    exact Int.le_of_mul_le_mul_left (by omega) (show 0 < m by omega)
   have en : n / 1000000000 % 1000 = c := hc.symm
   have Hc := hide (And.intro hc hpc)
   clear hc hpc HQ
   go_upto_region 5 with fail
   go_region
   all_goals go_wp2
   all_goals go_roundw
   case rel => exact ⟨1000 * q + (r * 1000 + c * g) / m, (r * 1000 + c * g) % m, 1000000, n / 1000000000, by first | rfl | go_num, by first | rfl | go_num, by first | rfl | go_num, .inr (.inl ⟨rfl, rfl⟩), hst, by omega, y4, y1, y2, by go_simp, by go_simp, bwz⟩
   case measure => simp [intOf]
  ·obtain ⟨c, hc⟩ : ∃ c, c = n / 1000000 % 1000 := ⟨_, rfl⟩
   have hcb : 0 ≤ c ∧ c ≤ 999 := by omega
   have hpc : n / 1000000 = 1000 * (n / 1000000000) + c := by omega
   obtain ⟨x1, x2⟩ := nn_bd 999 20000000000000 19980000000000000 hcb.1 hcb.2 g0 (by omega) (by decide)
   have hst := hide (dv_step (by omega) HQ.out hpc)
   have y0 : 0 ≤ (r * 1000 + c * g) / m := Int.ediv_nonneg (by omega) (by omega)
   have y1 : 0 ≤ (r * 1000 + c * g) % m := Int.emod_nonneg _ (by omega)
   have y2 : (r * 1000 + c * g) % m < m := Int.emod_lt_of_pos _ (by omega)
   have y3 : (r * 1000 + c * g) / m ≤ r * 1000 + c * g := Int.ediv_le_self _ (by omega)
   have y4 : 1000 * q + (r * 1000 + c * g) / m ≤ n / 1000000 := by
    have e := hst.out
    have e2 := Int.mul_le_mul_of_nonneg_left g1 (show 0 ≤ n / 1000000 by omega)
    rw [Int.mul_comm (n / 1000000) m] at e2
    exact Int.le_of_mul_le_mul_left (by omega) (show 0 < m by omega)
   have en : n / 1000000 % 1000 = c := hc.symm
   have Hc := hide (And.intro hc hpc)
   clear hc hpc HQ
   go_upto_region 5 with fail
   go_region
   all_goals go_wp2
   all_goals go_roundw
   case rel => exact ⟨1000 * q + (r * 1000 + c * g) / m, (r * 1000 + c * g) % m, 1000, n / 1000000, by first | rfl | go_num, by first | rfl | go_num, by first | rfl | go_num, .inr (.inr (.inl ⟨rfl, rfl⟩)), hst, by omega, y4, y1, y2, by go_simp, by go_simp, bwz⟩
   case measure => simp [intOf]
  ·obtain ⟨c, hc⟩ : ∃ c, c = n / 1000 % 1000 := ⟨_, rfl⟩
   have hcb : 0 ≤ c ∧ c ≤ 999 := by omega
   have hpc : n / 1000 = 1000 * (n / 1000000) + c := by omega
   obtain ⟨x1, x2⟩ := nn_bd 999 20000000000000 19980000000000000 hcb.1 hcb.2 g0 (by omega) (by decide)
   have hst := hide (dv_step (by omega) HQ.out hpc)
   have y0 : 0 ≤ (r * 1000 + c * g) / m := Int.ediv_nonneg (by omega) (by omega)
   have y1 : 0 ≤ (r * 1000 + c * g) % m := Int.emod_nonneg _ (by omega)
   have y2 : (r * 1000 + c * g) % m < m := Int.emod_lt_of_pos _ (by omega)
   have y3 : (r * 1000 + c * g) / m ≤ r * 1000 + c * g := Int.ediv_le_self _ (by omega)
   have y4 : 1000 * q + (r * 1000 + c * g) / m ≤ n / 1000 := by
    have e := hst.out
    have e2 := Int.mul_le_mul_of_nonneg_left g1 (show 0 ≤ n / 1000 by omega)
    rw [Int.mul_comm (n / 1000) m] at e2
    exact Int.le_of_mul_le_mul_left (by omega) (show 0 < m by omega)
   have en : n / 1000 % 1000 = c := hc.symm
   have Hc := hide (And.intro hc hpc)
   clear hc hpc HQ
   go_upto_region 5 with fail
   go_region
   all_goals go_wp2
   all_goals go_roundw
   case rel => exact ⟨1000 * q + (r * 1000 + c * g) / m, (r * 1000 + c * g) % m, 1, n / 1000, by first | rfl | go_num, by first | rfl | go_num, by first | rfl | go_num, .inr (.inr (.inr (.inl ⟨rfl, rfl⟩))), hst, by omega, y4, y1, y2, by go_simp, by go_simp, bwz⟩
   case measure => simp [intOf]
  ·obtain ⟨c, hc⟩ : ∃ c, c = n / 1 % 1000 := ⟨_, rfl⟩
   have hcb : 0 ≤ c ∧ c ≤ 999 := by omega
   have hpc : n = 1000 * (n / 1000) + c := by omega
   obtain ⟨x1, x2⟩ := nn_bd 999 20000000000000 19980000000000000 hcb.1 hcb.2 g0 (by omega) (by decide)
   have hst := hide (dv_step (by omega) HQ.out hpc)
   have y0 : 0 ≤ (r * 1000 + c * g) / m := Int.ediv_nonneg (by omega) (by omega)
   have y1 : 0 ≤ (r * 1000 + c * g) % m := Int.emod_nonneg _ (by omega)
   have y2 : (r * 1000 + c * g) % m < m := Int.emod_lt_of_pos _ (by omega)
   have y3 : (r * 1000 + c * g) / m ≤ r * 1000 + c * g := Int.ediv_le_self _ (by omega)
   have y4 : 1000 * q + (r * 1000 + c * g) / m ≤ n := by
    have e := hst.out
    have e2 := Int.mul_le_mul_of_nonneg_left g1 (show 0 ≤ n by omega)
    rw [Int.mul_comm (n) m] at e2
    exact Int.le_of_mul_le_mul_left (by omega) (show 0 < m by omega)
   have en : n / 1 % 1000 = c := hc.symm
   have en2 : n % 1000 = c := by omega
   have Hc := hide (And.intro hc hpc)
   clear hc hpc HQ
   go_upto_region 5 with fail
   go_region
   all_goals go_wp2
   all_goals go_roundw
   case rel => exact ⟨1000 * q + (r * 1000 + c * g) / m, (r * 1000 + c * g) % m, 0, n, by first | rfl | go_num, by first | rfl | go_num, by first | rfl | go_num, .inr (.inr (.inr (.inr ⟨rfl, rfl⟩))), hst, by omega, y4, y1, y2, by go_simp, by go_simp, bwz⟩
   case measure => simp [intOf]
  ·obtain ⟨e1, e2⟩ := Hfin.out q r r0 r1 HQ.out
   have He := hide (And.intro e1 e2)
   clear e1 e2 HQ
   go_wp2
   go_ret2
   exact ⟨by rw [← He.out.1, ← He.out.2]; rfl, hbl⟩
end Go.Proofs.YtgcdgdnmcdffoaaGreatDoor
/- Walks: quotients of great products; the crossings of a track and a line, of the program. -/
namespace Go.Proofs.YtgcdgdnmcdffoaaGreatDoor
open Go.RowKit

theorem hilo64 {p : Int} (h0 : 0 ≤ p) : hi64 p * 18446744073709551616 + lo64 p = p ∧ 0 ≤ hi64 p ∧ 0 ≤ lo64 p ∧ lo64 p ≤ 18446744073709551615 := by unfold hi64 lo64; omega
set_option maxHeartbeats 2000000 in
theorem impl_mulDiv_q (x y c : Int) (h1 : 0 ≤ x) (h2 : x ≤ 9223372036854775807) (h3 : 0 ≤ y) (h4 : y ≤ 9223372036854775807) (h5 : 1 ≤ c) (h6 : c ≤ 9223372036854775807) (hq : x * y / c ≤ 2147483647) (w : World) :
 Calls Tryz.prog 137 #[.int .i64 x, .int .i64 y, .int .i64 c] w fun e w' => e = .returned (.tuple #[.int .i64 (x * y / c), .bool (decide (0 < x * y % c))]) ∧ Below w.heap.size w w' := by
 have hp := Int.mul_nonneg h1 h3
 have K1 := fun W => bits_Mul64 x y h1 h2 h3 h4 W
 generalize x * y = p at *
 obtain ⟨e0, e1, e2, e3⟩ := hilo64 hp
 have KM := hide K1
 have hq0 : 0 ≤ p / c := Int.ediv_nonneg hp (by omega)
 have hr0 : 0 ≤ p % c := Int.emod_nonneg _ (by omega)
 have hr1 : p % c < c := Int.emod_lt_of_pos _ (by omega)
 have KD : ∀ W, Calls Tryz.prog 161 #[.int .u64 (hi64 p), .int .u64 (lo64 p), .int .u64 c] W fun e w' => e = .returned (.tuple #[.int .u64 (p / c), .int .u64 (p % c)]) ∧ Below W.heap.size W w' := fun W => by
  by_cases hh : hi64 p = 0
  ·have K := bits_Div64_small (lo64 p) c e2 e3 h5 h6 W
   have el : lo64 p = p := by rw [hh] at e0; omega
   rw [el] at K
   rw [hh, el]
   exact K
  ·have K := bits_Div64_q (hi64 p) (lo64 p) c (by omega) e2 e3 h5 h6 (by rw [e0]; exact hq) W
   rw [e0] at K
   exact K
 have KD := hide KD
 clear K1 e0
 go_enter Tryz.func137, Tryz.ntmps137
 go_wp2_with (first | (go_at_call 160; (with_reducible refine (KM.out _).mono ?_); rintro e w9 ⟨rfl, rfl⟩) | (go_at_call 161; (with_reducible refine (KD.out _).mono ?_); rintro e w9 ⟨rfl, hb⟩))
 go_ret2
 exact ⟨rfl, hb⟩
theorem new5 {W : World} {e : TypeId} {x y z u' v : Value} : ∀ (j : Nat) (u : Value), [x, y, z, u', v][j]? = some u → (W.alloc (.cells #[x, y, z, u', v] e)).cell? ((⟨W.heap.size, 0, none⟩ : Addr).add j) = some u := fun j u hj => by
 match j, hj with
 | 0, hj => simp at hj; subst hj; simp [Addr.add]
 | 1, hj => simp at hj; subst hj; simp [Addr.add]
 | 2, hj => simp at hj; subst hj; simp [Addr.add]
 | 3, hj => simp at hj; subst hj; simp [Addr.add]
 | 4, hj => simp at hj; subst hj; simp [Addr.add]
theorem one5 (x y z u' v : Int) : ∀ u ∈ [Value.int .i64 x, Value.int .i64 y, Value.int .i64 z, Value.int .i64 u', Value.int .i64 v], u.oneCell' = true := fun u hu => by
 simp at hu; rcases hu with rfl | rfl | rfl | rfl | rfl <;> rfl
theorem infoCx : (Tryz.prog.info? 156).map (fun i => (i.zero, i.size, i.bytes)) = some (some (.agg #[.int .i64 0, .int .i64 0, .int .i64 0, .int .i64 0, .int .i64 0]), 5, 40) := by kernel_rfl
/-- What is known of a crossing. -/
theorem cx_facts {ax ay bx bY : Int} {n k : Nat} {T U V : Nat → Int} (hl : isSg ax ay bx bY = true) (hv : isTr n T U V = true) (hk : k + 1 < n) (hw : ¬ wyL ax ay bx bY U V k = 0) :
 0 ≤ cxN ax ay bx bY U V k ∧ cxN ax ay bx bY U V k ≤ cxD ax ay bx bY U V k ∧ 1 ≤ cxD ax ay bx bY U V k ∧ cxD ax ay bx bY U V k ≤ 16000000000000 := by
 obtain ⟨_, _, _, p0, p1⟩ := isTr_leg hv hk
 obtain ⟨c0, c1, c2, c3⟩ := cp_pre hl p0 p1
 obtain ⟨f1, f2, f3, f4⟩ := cp_facts (way_den hw)
 refine ⟨f1, f2, f3, Int.le_trans f4 ?_⟩
 unfold absI; split <;> split <;> omega
theorem cxT_bd {ax ay bx bY : Int} {n k : Nat} {T U V : Nat → Int} (hl : isSg ax ay bx bY = true) (hv : isTr n T U V = true) (hk : k + 1 < n) (hw : ¬ wyL ax ay bx bY U V k = 0) : 0 ≤ cxT ax ay bx bY T U V k ∧ cxT ax ay bx bY T U V k ≤ 1000000000 := by
 obtain ⟨t0, t1, t2, _, _⟩ := isTr_leg hv hk
 obtain ⟨f1, f2, f3, f4⟩ := cx_facts hl hv hk hw
 obtain ⟨g1, g2, g3, g4⟩ := gone_bd (show 0 ≤ T (k + 1) - T k by omega) f1 f2 f3
 unfold cxT; omega
set_option maxRecDepth 100000 in
set_option maxHeartbeats 8000000 in
theorem impl_crossingsOf (ax ay bx bY : Int) (b o n cap : Nat) (T U V : Nat → Int) (w : World) (h : RowAt w (some ⟨b, o, none⟩) n 3 (v3 T U V)) (hv : isTr n T U V = true) (hl : isSg ax ay bx bY = true) :
 Calls Tryz.prog 158 #[.agg #[.slice (some ⟨b, o, none⟩) n cap], .agg #[.int .i64 ax, .int .i64 ay, .int .i64 bx, .int .i64 bY]] w fun e w' => ∃ g cp, e = .returned (.slice (some ⟨g, 0, none⟩) (cxs ax ay bx bY U V (n - 1)).length cp) ∧ w'.ownsRow w.heap.size 156 5 (.slice (some ⟨g, 0, none⟩) (cxs ax ay bx bY U V (n - 1)).length cp) (cxs ax ay bx bY U V (n - 1)).length (cxCs ax ay bx bY T U V (cxs ax ay bx bY U V (n - 1))) ∧ Below w.heap.size w w' := by
 obtain ⟨hn2, hn40, hall⟩ := isTr_t hv
 obtain ⟨i1, hi, hz0, hz1', hz2'⟩ := info_parts infoCx
 have Hi := hide hi
 have Hz := hide (And.intro hz0 (And.intro hz1' hz2'))
 clear hi hz0 hz1' hz2'
 obtain ⟨la, lb, _⟩ := isSg_t hl
 obtain ⟨s1, s2⟩ := pt_sm la
 obtain ⟨s3, s4⟩ := pt_sm lb
 have KS := hide (fun (l : Nat) (hl : l + 1 < n) W (hb : Below w.heap.size w W) => impl_legSegment b o n cap l T U V W (RowAt.later hb h) hn40 hl)
 have KY := hide (fun (l : Nat) (hl : l + 1 < n) W => impl_wayAcross ax ay bx bY (U l) (V l) (U (l + 1)) (V (l + 1)) s1 s2 s3 s4 (pt_sm (isTr_leg hv hl).2.2.2.1).1 (pt_sm (isTr_leg hv hl).2.2.2.1).2 (pt_sm (isTr_leg hv hl).2.2.2.2).1 (pt_sm (isTr_leg hv hl).2.2.2.2).2 W)
 have KP := hide (fun (l : Nat) (hll : l + 1 < n) (hw : ¬ wyL ax ay bx bY U V l = 0) W => impl_CrossingPlace_ok ax ay bx bY (U l) (V l) (U (l + 1)) (V (l + 1)) hl (isTr_leg hv hll).2.2.2.1 (isTr_leg hv hll).2.2.2.2 hw W)
 have HF := hide (fun (l : Nat) (hll : l + 1 < n) (hw : ¬ wyL ax ay bx bY U V l = 0) => cx_facts hl hv hll hw)
 have HT := hide (fun (l : Nat) (hll : l + 1 < n) => isTr_leg hv hll)
 have Hh := hide h
 clear h hv hl la lb s1 s2 s3 s4 hall
 go_enter Tryz.func158, Tryz.ntmps158
 have we0 : IntKind.i64.wrap ((n : Int) - 1) = (n : Int) - 1 := IntWalk.i64_in _ (by omega)
 go_wp2
 clear we0
 go_loopw [5, 19] (fun v i wr => ∃ k g9 cp9 : Nat, k + 1 ≤ n ∧ i = .int .i64 k ∧ v = .slice (some ⟨g9, 0, none⟩) (cxs ax ay bx bY U V k).length cp9 ∧ Hid (wr.ownsRow (w.heap.size + 1 + 1) 156 5 (.slice (some ⟨g9, 0, none⟩) (cxs ax ay bx bY U V k).length cp9) (cxs ax ay bx bY U V k).length (cxCs ax ay bx bY T U V (cxs ax ay bx bY U V k))) ∧ wr.cell? ⟨w.heap.size, 0, none⟩ = some (.slice (some ⟨b, o, none⟩) n cap) ∧ wr.cell? ⟨w.heap.size + 1, 0, none⟩ = some (.int .i64 ax) ∧ wr.cell? ⟨w.heap.size + 1, 1, none⟩ = some (.int .i64 ay) ∧ wr.cell? ⟨w.heap.size + 1, 2, none⟩ = some (.int .i64 bx) ∧ wr.cell? ⟨w.heap.size + 1, 3, none⟩ = some (.int .i64 bY) ∧ Below w.heap.size w wr) (fun _ i _ => n - (intOf i).toNat)
 case atStart =>
  refine ⟨0, w.heap.size + 1 + 1, 0, by omega, rfl, rfl, hide ?_, by go_simp, by go_simp, by go_simp, by go_simp, by go_simp, bwz⟩
  have hm := World.ownsRow_made (base := w.heap.size + 1 + 1) (e := 156) (size := 5) ((w.alloc (.cells #[.slice (some ⟨b, o, none⟩) n cap] 33)).alloc (.cells #[.int .i64 ax, .int .i64 ay, .int .i64 bx, .int .i64 bY] 27)) #[] 0 (by simp) (by decide) rfl
  simp only [size_al] at hm
  exact hm
 case round =>
  obtain ⟨k, g9, cp9, hk, rfl, rfl, HO, e0, e1, e2, e3, e4, hbl⟩ := hrel
  have hg9b := HO.out.lt g9 rfl
  have zr0 : w.heap.size < wr.heap.size := by omega
  have zr1 : w.heap.size + 1 < wr.heap.size := by omega
  have HBl := hide hbl
  by_cases hlt : k + 1 < n
  ·have we : IntKind.i64.wrap ((k : Int) + 1) = (k : Int) + 1 := IntWalk.i64_in _ (by omega)
   have hi1 : (k : Int) < (n : Int) - 1 := by omega
   have hi2 : (k : Int) < (n : Int) := by omega
   have hi3 : (k : Int) + 1 < (n : Int) := by omega
   have hi4 : (0 : Int) ≤ (k : Int) := by omega
   have hi5 : (0 : Int) ≤ (k : Int) + 1 := by omega
   have hl9 := cxs_len ax ay bx bY U V k
   have Kk := hide (fun W (hb : Below wr.heap.size wr W) => KS.out k hlt W (bstep HBl.out hb))
   have Ky := fun W => (show wayI ax ay bx bY (U k) (V k) (U (k + 1)) (V (k + 1)) = wyL ax ay bx bY U V k from rfl) ▸ KY.out k hlt W
   obtain ⟨y9, hy9⟩ : ∃ v, v = wyL ax ay bx bY U V k := ⟨_, rfl⟩
   rw [← hy9] at Ky
   have Ky := hide Ky
   have Hy9 := hide hy9
   clear hbl hy9
   obtain ⟨a1, j1⟩ : ∃ v, v = U k := ⟨_, rfl⟩
   obtain ⟨a2, j2⟩ : ∃ v, v = V k := ⟨_, rfl⟩
   obtain ⟨a3, j3⟩ : ∃ v, v = U (k + 1) := ⟨_, rfl⟩
   obtain ⟨a4, j4⟩ : ∃ v, v = V (k + 1) := ⟨_, rfl⟩
   have Kp := hide (fun (hw : ¬ y9 = 0) W => (show cpN (crs ax ay bx bY a1 a2) (crs ax ay bx bY a3 a4) = cxN ax ay bx bY U V k by rw [j1, j2, j3, j4]; rfl) ▸ (show cpD (crs ax ay bx bY a1 a2) (crs ax ay bx bY a3 a4) = cxD ax ay bx bY U V k by rw [j1, j2, j3, j4]; rfl) ▸ j1 ▸ j2 ▸ j3 ▸ j4 ▸ KP.out k hlt (by rw [← Hy9.out]; exact hw) W)
   rw [← j1, ← j2, ← j3, ← j4] at Kk Ky
   clear j1 j2 j3 j4
   go_upto_region 6 with (go_at_call 53; (with_reducible refine (Kk.out _ (Below.refl _ _)).mono ?_); rintro e wA ⟨rfl, hb⟩; have zA := hb.size; have d0 := cell_later hb e0; have d1 := cell_later hb e1; have d2 := cell_later hb e2; have d3 := cell_later hb e3; have d4 := cell_later hb e4; have hOA := own_later hb HO.out; have hBA := bstep HBl.out hb; clear e0 e1 e2 e3 e4 hb)
   obtain ⟨wS, hS⟩ : ∃ W, W = wA.alloc (.cells #[.int .i64 a1, .int .i64 a2, .int .i64 a3, .int .i64 a4] 91) := ⟨_, rfl⟩
   have s1 : wS.cell? ⟨wA.heap.size, 0, none⟩ = some (.int .i64 a1) := by rw [hS]; go_simp
   have s2 : wS.cell? ⟨wA.heap.size, 1, none⟩ = some (.int .i64 a2) := by rw [hS]; go_simp
   have s3 : wS.cell? ⟨wA.heap.size, 2, none⟩ = some (.int .i64 a3) := by rw [hS]; go_simp
   have s4 : wS.cell? ⟨wA.heap.size, 3, none⟩ = some (.int .i64 a4) := by rw [hS]; go_simp
   have m0 : wS.cell? ⟨w.heap.size, 0, none⟩ = some (.slice (some ⟨b, o, none⟩) n cap) := by rw [hS]; exact cell_alloc d0
   have m1 : wS.cell? ⟨w.heap.size + 1, 0, none⟩ = some (.int .i64 ax) := by rw [hS]; exact cell_alloc d1
   have m2 : wS.cell? ⟨w.heap.size + 1, 1, none⟩ = some (.int .i64 ay) := by rw [hS]; exact cell_alloc d2
   have m3 : wS.cell? ⟨w.heap.size + 1, 2, none⟩ = some (.int .i64 bx) := by rw [hS]; exact cell_alloc d3
   have m4 : wS.cell? ⟨w.heap.size + 1, 3, none⟩ = some (.int .i64 bY) := by rw [hS]; exact cell_alloc d4
   have HBS := hide (show Below w.heap.size w wS by rw [hS]; exact Below.alloc hBA (by omega) _)
   have HOS := hide (show wS.ownsRow (w.heap.size + 1 + 1) 156 5 (.slice (some ⟨g9, 0, none⟩) (cxs ax ay bx bY U V k).length cp9) (cxs ax ay bx bY U V k).length (cxCs ax ay bx bY T U V (cxs ax ay bx bY U V k)) by rw [hS]; exact hOA.alloc _)
   have zS : wA.heap.size < wS.heap.size := by rw [hS]; simp
   have zS1 : w.heap.size + 1 < wS.heap.size := by omega
   have zS0 : w.heap.size < wS.heap.size := by omega
   rw [← hS]
   clear hS d0 d1 d2 d3 d4 hOA hBA HO
   go_wp2_with fail; (with_reducible refine (Ky.out _).mono ?_); rintro e wV ⟨rfl, hb⟩
   have r1 := cell_later hb s1
   have r2 := cell_later hb s2
   have r3 := cell_later hb s3
   have r4 := cell_later hb s4
   have n0 := cell_later hb m0
   have n1 := cell_later hb m1
   have n2 := cell_later hb m2
   have n3 := cell_later hb m3
   have n4 := cell_later hb m4
   have HOV := hide (own_later hb HOS.out)
   have HBV := hide (bstep HBS.out hb)
   have zV := hb.size
   have zV1 : wA.heap.size < wV.heap.size := by omega
   have zV2 : w.heap.size + 1 < wV.heap.size := by omega
   have zV3 : w.heap.size < wV.heap.size := by omega
   clear hb s1 s2 s3 s4 m0 m1 m2 m3 m4 HOS HBS Ky Kk
   by_cases hy : y9 = 0
   ·have Hn := hide (cxs_no (k := k) (Hy9.out.symm.trans hy))
    subst hy
    clear r1 r2 r3 r4 Kp
    go_wp2
    go_roundw
    case rel => exact ⟨k + 1, g9, cp9, by omega, by go_num, by rw [Hn.out], by rw [Hn.out]; exact HOV, n0, n1, n2, n3, n4, HBV.out⟩
    case measure => simp [intOf]; omega
   ·have hyb : (y9 == 0) = false := beq_eq_false_iff_ne.2 hy
    have Hn := hide (cxs_yes (k := k) (fun q => hy (Hy9.out.trans q)))
    obtain ⟨f1, f2, f3, f4⟩ := HF.out k hlt (fun q => hy (Hy9.out.trans q))
    obtain ⟨t0, t1, t2, _, _⟩ := HT.out k hlt
    obtain ⟨x1, x2, x3, x4⟩ := gone_bd (show 0 ≤ T (k + 1) - T k by omega) f1 f2 f3
    have Kp2 := hide (Kp.out hy)
    have Km := hide (fun W => impl_mulDiv_q (T (k + 1) - T k) (cxN ax ay bx bY U V k) (cxD ax ay bx bY U V k) (by omega) (by omega) f1 (by omega) f3 (by omega) (by omega) W)
    have hcC : cxC ax ay bx bY T U V k = [.int .i64 (T k + goneI (T (k + 1) - T k) (cxN ax ay bx bY U V k) (cxD ax ay bx bY U V k)), .int .i64 (k : Int), .int .i64 y9, .int .i64 (cxN ax ay bx bY U V k), .int .i64 (cxD ax ay bx bY U V k)] := by unfold cxC cxT; rw [← Hy9.out]
    have hgo : goneI (T (k + 1) - T k) (cxN ax ay bx bY U V k) (cxD ax ay bx bY U V k) = if 0 < (T (k + 1) - T k) * cxN ax ay bx bY U V k % cxD ax ay bx bY U V k then (T (k + 1) - T k) * cxN ax ay bx bY U V k / cxD ax ay bx bY U V k + 1 else (T (k + 1) - T k) * cxN ax ay bx bY U V k / cxD ax ay bx bY U V k := rfl
    generalize (T (k + 1) - T k) * cxN ax ay bx bY U V k / cxD ax ay bx bY U V k = q9 at *
    obtain ⟨r9, hr9⟩ : ∃ v, v = decide (0 < (T (k + 1) - T k) * cxN ax ay bx bY U V k % cxD ax ay bx bY U V k) := ⟨_, rfl⟩
    rw [← hr9] at Km
    have Hgo := hide (show goneI (T (k + 1) - T k) (cxN ax ay bx bY U V k) (cxD ax ay bx bY U V k) = if r9 = true then q9 + 1 else q9 by rw [hgo, hr9]; simp only [decide_eq_true_eq])
    have hgr := Hgo.out
    generalize goneI (T (k + 1) - T k) (cxN ax ay bx bY U V k) (cxD ax ay bx bY U V k) = o9 at *
    clear hr9 hgo
    generalize cxN ax ay bx bY U V k = n9 at *
    generalize cxD ax ay bx bY U V k = d9 at *
    have HcC := hide hcC
    clear hcC
    go_wp2_with fail; (with_reducible refine (Kp2.out _).mono ?_); rintro e wP ⟨rfl, hb⟩
    have p0 := cell_later hb n0
    have p1 := cell_later hb n1
    have p2 := cell_later hb n2
    have p3 := cell_later hb n3
    have p4 := cell_later hb n4
    have hOP := own_later hb HOV.out
    have hBP := bstep HBV.out hb
    have zP := hb.size
    clear hb r1 r2 r3 r4 n0 n1 n2 n3 n4 HOV HBV Kp Kp2
    obtain ⟨c0, c1, c2⟩ := (RowAt.later hBP Hh.out).on3 k (by omega)
    obtain ⟨c3, c4, c5⟩ := (RowAt.later hBP Hh.out).on3 (k + 1) hlt
    have hbs : b < wP.heap.size := World.block_lt_of_cell? _ _ c0
    obtain ⟨wR, hR⟩ : ∃ W, W = wP.alloc (.cells #[.int .i64 n9, .int .i64 d9] 94) := ⟨_, rfl⟩
    have u1 : wR.cell? ⟨wP.heap.size, 0, none⟩ = some (.int .i64 n9) := by rw [hR]; go_simp
    have u2 : wR.cell? ⟨wP.heap.size, 1, none⟩ = some (.int .i64 d9) := by rw [hR]; go_simp
    have y0 : wR.cell? ⟨w.heap.size, 0, none⟩ = some (.slice (some ⟨b, o, none⟩) n cap) := by rw [hR]; exact cell_alloc p0
    have y1 : wR.cell? ⟨w.heap.size + 1, 0, none⟩ = some (.int .i64 ax) := by rw [hR]; exact cell_alloc p1
    have y2 : wR.cell? ⟨w.heap.size + 1, 1, none⟩ = some (.int .i64 ay) := by rw [hR]; exact cell_alloc p2
    have y3 : wR.cell? ⟨w.heap.size + 1, 2, none⟩ = some (.int .i64 bx) := by rw [hR]; exact cell_alloc p3
    have y4 : wR.cell? ⟨w.heap.size + 1, 3, none⟩ = some (.int .i64 bY) := by rw [hR]; exact cell_alloc p4
    have b0 : wR.cell? ⟨b, o + k * 3, none⟩ = some (.int .i64 (T k)) := by rw [hR]; exact cell_alloc c0
    have b3 : wR.cell? ⟨b, o + (k + 1) * 3, none⟩ = some (.int .i64 (T (k + 1))) := by rw [hR]; exact cell_alloc c3
    have HBR := hide (show Below w.heap.size w wR by rw [hR]; exact Below.alloc hBP (by omega) _)
    have HOR := hide (show wR.ownsRow (w.heap.size + 1 + 1) 156 5 (.slice (some ⟨g9, 0, none⟩) (cxs ax ay bx bY U V k).length cp9) (cxs ax ay bx bY U V k).length (cxCs ax ay bx bY T U V (cxs ax ay bx bY U V k)) by rw [hR]; exact hOP.alloc _)
    have zR : wP.heap.size < wR.heap.size := by rw [hR]; simp
    have zR1 : w.heap.size + 1 < wR.heap.size := by omega
    have zR0 : w.heap.size < wR.heap.size := by omega
    have zRb : b < wR.heap.size := by omega
    go_upto_region 9 with fail
    rw [← hR]
    clear hR p0 p1 p2 p3 p4 c0 c1 c2 c3 c4 c5 hOP hBP
    have wt : IntKind.i64.wrap (T (k + 1) - T k) = T (k + 1) - T k := IntWalk.i64_in _ (by omega)
    go_upto_region 10 with fail
    refine wp_region_held_drew (S := fun W => Below wR.heap.size wR W) (by kernel_rfl) (Below.drew (Below.refl _ _)) (fun hHeld => ?_)
    refine tkN 0 (some 46) rfl ?_; simp only [pz]
    refine tkL 1 (some 47) rfl ?_; simp only [pz]
    refine tkN 2 (some 48) rfl ?_; simp only [pz]
    refine tkN 3 (some 49) rfl ?_; simp only [pz]
    refine tkN 4 (some 50) rfl ?_; simp only [pz]
    refine tkN 5 (some 51) rfl ?_; simp only [pz]
    refine tkL 6 (some 52) rfl ?_; simp only [pz]
    refine tkN 7 (some 53) rfl ?_; simp only [pz]
    refine tkN 8 (some 54) rfl ?_; simp only [pz]
    refine tkN 9 (some 55) rfl ?_; simp only [pz]
    refine tkL 10 (some 56) rfl ?_; simp only [pz]
    refine tkN 11 (some 57) rfl ?_; simp only [pz]
    refine tkL 12 (some 58) rfl ?_; simp only [pz]
    refine rd1 13 (some 59) rfl (fun K hK => ?_)
    go_simp; (go_at_call 137; (with_reducible refine (Km.out _).mono ?_); rintro e w9 ⟨rfl, hb⟩)
    all_goals (try go_wp2_with fail)
    refine hK.out _ _ ?_ (fun hH2 => ?_)
    ·exact hhz
    clear hK K hHeld; (have hHeld := hH2); clear hH2; (try simp only [pz])
    refine tkN 14 (some 45) rfl ?_; simp only [pz]
    refine tkN 15 (some 60) rfl ?_; simp only [pz]
    refine tkN 16 (some 61) rfl ?_; simp only [pz]
    refine tkN 17 (some 12) rfl ?_; simp only [pz]
    refine tkN 18 (some 13) rfl ?_; simp only [pz]
    refine wpAnyH_done (by kernel_rfl) ?_ _; (try simp only [pz])
    obtain ⟨wW, rfl⟩ : ∃ W : World, W = w9 := ⟨_, rfl⟩
    have h0 := cell_later hHeld y0
    have h1 := cell_later hHeld y1
    have h2 := cell_later hHeld y2
    have h3 := cell_later hHeld y3
    have h4 := cell_later hHeld y4
    have v1 := cell_later hHeld u1
    have v2 := cell_later hHeld u2
    have HOW := hide (own_later hHeld HOR.out)
    have HBW := hide (bstep HBR.out hHeld)
    have zW := hHeld.size
    have zW1 : wP.heap.size < wW.heap.size := by omega
    clear hHeld y0 y1 y2 y3 y4 u1 u2 b0 b3 HOR HBR hb Km wt
    have hOW := HOW.out
    cases r9
    ·have ho : o9 = q9 := hgr
     have wt2 : IntKind.i64.wrap (T k + q9) = T k + q9 := IntWalk.i64_in _ (by omega)
     have HcC2 := hide (ho ▸ HcC.out)
     clear HcC hgr ho Hgo
     go_wp2_with (at_builtin; refine wpList_append_lies _ rfl _ _ 180 rfl (w.heap.size + 1 + 1) 156 i1 _ 5 40 Tryz.underlying180 Hi.out Hz.out.1 Hz.out.2.1 Hz.out.2.2 rfl (by decide) _ _ _ rfl (hOW.alloc _) ⟨wW.heap.size, 0, none⟩ 1 1 [.int .i64 (T k + q9), .int .i64 (k : Int), .int .i64 y9, .int .i64 n9, .int .i64 d9] rfl rfl new5 (one5 _ _ _ _ _) (by decide) (by unfold maxLen; omega) (by omega) (by simp; omega) (wW.heap.size + 1) (by simp) ?_)
     intro g' cap' wZ hown' hgr' hat hlt'
     have hbZ := below_grown hOW (by omega) hgr'
     have z0 := cell_below hbZ (by omega) h0
     have z1 := cell_below hbZ (by omega) h1
     have z2 := cell_below hbZ (by omega) h2
     have z3 := cell_below hbZ (by omega) h3
     have z4 := cell_below hbZ (by omega) h4
     clear h0 h1 h2 h3 h4 v1 v2
     go_wp2
     go_roundw
     case rel => exact ⟨k + 1, g', cap', by omega, by go_num, by rw [Hn.out, List.length_append, List.length_singleton], by rw [Hn.out, List.length_append, List.length_singleton, cxCs_app, HcC2.out]; exact hown', z0, z1, z2, z3, z4, HBW.out.trans (hbZ.mono (by omega))⟩
     case measure => simp [intOf]; omega
    ·have ho : o9 = q9 + 1 := hgr
     have wt2 : IntKind.i64.wrap (T k + (q9 + 1)) = T k + (q9 + 1) := IntWalk.i64_in _ (by omega)
     have wt3 : IntKind.i64.wrap (q9 + 1) = q9 + 1 := IntWalk.i64_in _ (by omega)
     have HcC2 := hide (ho ▸ HcC.out)
     clear HcC hgr ho Hgo
     go_wp2_with (at_builtin; refine wpList_append_lies _ rfl _ _ 180 rfl (w.heap.size + 1 + 1) 156 i1 _ 5 40 Tryz.underlying180 Hi.out Hz.out.1 Hz.out.2.1 Hz.out.2.2 rfl (by decide) _ _ _ rfl (hOW.alloc _) ⟨wW.heap.size, 0, none⟩ 1 1 [.int .i64 (T k + (q9 + 1)), .int .i64 (k : Int), .int .i64 y9, .int .i64 n9, .int .i64 d9] rfl rfl new5 (one5 _ _ _ _ _) (by decide) (by unfold maxLen; omega) (by omega) (by simp; omega) (wW.heap.size + 1) (by simp) ?_)
     intro g' cap' wZ hown' hgr' hat hlt'
     have hbZ := below_grown hOW (by omega) hgr'
     have z0 := cell_below hbZ (by omega) h0
     have z1 := cell_below hbZ (by omega) h1
     have z2 := cell_below hbZ (by omega) h2
     have z3 := cell_below hbZ (by omega) h3
     have z4 := cell_below hbZ (by omega) h4
     clear h0 h1 h2 h3 h4 v1 v2
     go_wp2
     go_roundw
     case rel => exact ⟨k + 1, g', cap', by omega, by go_num, by rw [Hn.out, List.length_append, List.length_singleton], by rw [Hn.out, List.length_append, List.length_singleton, cxCs_app, HcC2.out]; exact hown', z0, z1, z2, z3, z4, HBW.out.trans (hbZ.mono (by omega))⟩
     case measure => simp [intOf]; omega
  ·obtain rfl : k = n - 1 := by omega
   go_wp2
   go_ret
   exact ⟨g9, cp9, rfl, HO.out.mono (by omega), HBl.out⟩
end Go.Proofs.YtgcdgdnmcdffoaaGreatDoor
/- Walks: the exact time of a crossing, the crossings of a track and a line, of the reference. -/
namespace Go.Proofs.YtgcdgdnmcdffoaaGreatDoor
open Go.RowKit

theorem own_ne {w : World} {B : Nat} {e : TypeId} {size : Nat} {g cp m : Nat} {x : Value} {n : Nat} {xs : List Value} {b j : Nat} (h : w.ownsRow B e size (.slice (some ⟨g, 0, none⟩) m cp) n xs) (hb : g ≠ b) : (w.setCell ⟨b, j, none⟩ x).ownsRow B e size (.slice (some ⟨g, 0, none⟩) m cp) n xs :=
 h.kept (gr_set (g := b) ⟨rfl, rfl, rfl, Nat.le_refl _, fun _ _ _ => rfl⟩) (.inr (by
  show some g ≠ some b
  simp; omega))
theorem new5b {W : World} {b : Nat} {e : TypeId} {x y z u' v : Value} (hb : b = W.heap.size) : ∀ (j : Nat) (u : Value), [x, y, z, u', v][j]? = some u → (W.alloc (.cells #[x, y, z, u', v] e)).cell? ((⟨b, 0, none⟩ : Addr).add j) = some u := by subst hb; exact new5
set_option maxRecDepth 100000 in
set_option maxHeartbeats 8000000 in
theorem spec_l05Exact (b o n cap l : Nat) (T U V : Nat → Int) (tm wy g m : Int) (w : World) (h : RowAt w (some ⟨b, o, none⟩) n 3 (v3 T U V)) (hv : isTr n T U V = true) (hl : l + 1 < n) (g0 : 0 ≤ g) (g1 : g ≤ m) (m1 : 1 ≤ m) (m2 : m ≤ 20000000000000) :
 Calls Tryz.prog 176 #[.agg #[.slice (some ⟨b, o, none⟩) n cap], .agg #[.int .i64 tm, .int .i64 l, .int .i64 wy, .int .i64 g, .int .i64 m]] w fun e w' => e = .returned (.tuple #[.int .i64 (T l + (T (l + 1) - T l) * g / m), .agg #[.int .i64 ((T (l + 1) - T l) * g % m), .int .i64 m]]) ∧ Below w.heap.size w w' := by
 obtain ⟨hn2, hn40, _⟩ := isTr_t hv
 obtain ⟨t0, t1, t2, _, _⟩ := isTr_leg hv hl
 obtain ⟨x1, x2, _, _⟩ := gone_bd (show 0 ≤ T (l + 1) - T l by omega) g0 g1 m1
 have KD := hide (fun W => spec_l05Divide (T (l + 1) - T l) g m (by omega) (by omega) g0 g1 m1 m2 W)
 generalize (T (l + 1) - T l) * g / m = q9 at *
 generalize (T (l + 1) - T l) * g % m = r9 at *
 obtain ⟨c0, c1, c2⟩ := h.on3 l (by omega)
 obtain ⟨d0, d1, d2⟩ := h.on3 (l + 1) hl
 have hbs : b < w.heap.size := World.block_lt_of_cell? _ _ c0
 have hj1 : (0 : Int) ≤ (l : Int) := by omega
 have hj2 : (l : Int) < (n : Int) := by omega
 have hj3 : (l : Int) + 1 < (n : Int) := by omega
 have hj4 : (0 : Int) ≤ (l : Int) + 1 := by omega
 have we : IntKind.i64.wrap ((l : Int) + 1) = (l : Int) + 1 := IntWalk.i64_in _ (by omega)
 clear h hv
 have nbb0 : ¬ b = w.heap.size := (by omega); have ncb0 : ¬ w.heap.size = b := (by omega); have ndb0 : b < w.heap.size := (by omega); have nbb1 : ¬ b = w.heap.size + 1 := (by omega); have ncb1 : ¬ w.heap.size + 1 = b := (by omega); have ndb1 : b < w.heap.size + 1 := (by omega); have nbb2 : ¬ b = w.heap.size + 1 + 1 := (by omega); have ncb2 : ¬ w.heap.size + 1 + 1 = b := (by omega); have ndb2 : b < w.heap.size + 1 + 1 := (by omega); have nbb3 : ¬ b = w.heap.size + 1 + 1 + 1 := (by omega); have ncb3 : ¬ w.heap.size + 1 + 1 + 1 = b := (by omega); have ndb3 : b < w.heap.size + 1 + 1 + 1 := (by omega); have nbb4 : ¬ b = w.heap.size + 1 + 1 + 1 + 1 := (by omega); have ncb4 : ¬ w.heap.size + 1 + 1 + 1 + 1 = b := (by omega); have ndb4 : b < w.heap.size + 1 + 1 + 1 + 1 := (by omega)
 go_enter Tryz.func176, Tryz.ntmps176
 go_upto_region 1 with fail
 go_cut [6, 7] (fun s6 s7 W => ∃ gf hf2 : Nat, s6 = .pointer (some ⟨gf, 0, none⟩) ∧ s7 = .pointer (some ⟨hf2, 0, none⟩) ∧ w.heap.size + 1 + 1 < gf ∧ w.heap.size + 1 + 1 < hf2 ∧ W.cell? ⟨w.heap.size + 1, 3, none⟩ = some (.int .i64 g) ∧ W.cell? ⟨w.heap.size + 1, 4, none⟩ = some (.int .i64 m) ∧ W.cell? ⟨w.heap.size + 2, 0, none⟩ = some (.int .i64 0) ∧ W.frozen? ⟨w.heap.size + 2, 0, none⟩ = false ∧ W.cell? ⟨w.heap.size + 2, 1, none⟩ = some (.int .i64 0) ∧ W.frozen? ⟨w.heap.size + 2, 1, none⟩ = false ∧ W.cell? ⟨gf, 0, none⟩ = some (.int .i64 (T l)) ∧ W.cell? ⟨hf2, 0, none⟩ = some (.int .i64 (T (l + 1))) ∧ Below w.heap.size w W ∧ w.heap.size + 3 ≤ W.heap.size)
 case first =>
  have e0 : w.heap.size < w.heap.size + 1 + 1 + 1 := by omega
  have e1 : w.heap.size + 1 < w.heap.size + 1 + 1 + 1 := by omega
  have e2 : w.heap.size + 1 + 1 < w.heap.size + 1 + 1 + 1 := by omega
  refine wp_region_held_drew (S := (fun W => W.cell? ⟨w.heap.size, 0, none⟩ = some ((.slice (some ⟨b, o, none⟩) n cap)) ∧ W.cell? ⟨w.heap.size + 1, 0, none⟩ = some (.int .i64 tm) ∧ W.cell? ⟨w.heap.size + 1, 1, none⟩ = some (.int .i64 l) ∧ W.cell? ⟨w.heap.size + 1, 2, none⟩ = some (.int .i64 wy) ∧ W.cell? ⟨w.heap.size + 1, 3, none⟩ = some (.int .i64 g) ∧ W.cell? ⟨w.heap.size + 1, 4, none⟩ = some (.int .i64 m) ∧ W.cell? ⟨w.heap.size + 2, 0, none⟩ = some (.int .i64 0) ∧ W.frozen? ⟨w.heap.size + 2, 0, none⟩ = false ∧ W.cell? ⟨w.heap.size + 2, 1, none⟩ = some (.int .i64 0) ∧ W.frozen? ⟨w.heap.size + 2, 1, none⟩ = false ∧ W.cell? ⟨b, o + l * 3, none⟩ = some (.int .i64 (T l)) ∧ W.cell? ⟨b, o + l * 3 + 1, none⟩ = some (.int .i64 (U l)) ∧ W.cell? ⟨b, o + l * 3 + 2, none⟩ = some (.int .i64 (V l)) ∧ W.cell? ⟨b, o + (l + 1) * 3, none⟩ = some (.int .i64 (T (l + 1))) ∧ W.cell? ⟨b, o + (l + 1) * 3 + 1, none⟩ = some (.int .i64 (U (l + 1))) ∧ W.cell? ⟨b, o + (l + 1) * 3 + 2, none⟩ = some (.int .i64 (V (l + 1))) ∧ Below w.heap.size w W ∧ w.heap.size + 3 ≤ W.heap.size)) (by kernel_rfl) ?_ (fun hHeld => ?_)
  ·exact ⟨(by go_simp; done), (by go_simp; done), (by go_simp; done), (by go_simp; done), (by go_simp; done), (by go_simp; done), (by go_simp; done), (by go_simp; done), (by go_simp; done), (by go_simp; done), (by go_simp; done), (by go_simp; done), (by go_simp; done), (by go_simp; done), (by go_simp; done), (by go_simp; done), bwz, (by first | (simp; done) | (simp; omega) | omega)⟩
  refine tkD 0 (some 10) rfl ?_; simp only [pz]
  refine tkD 1 (some 11) rfl ?_; simp only [pz]
  refine tkD 2 (some 12) rfl ?_; simp only [pz]
  refine tkD 3 (some 13) rfl ?_; simp only [pz]
  refine tkD 4 (some 14) rfl ?_; simp only [pz]
  refine tkD 5 (some 15) rfl ?_; simp only [pz]
  refine tkD 6 (some 16) rfl ?_; simp only [pz]
  refine tkD 7 (some 17) rfl ?_; simp only [pz]
  refine tkD 8 (some 18) rfl ?_; simp only [pz]
  refine tkD 9 (some 19) rfl ?_; simp only [pz]
  refine tkD 10 (some 20) rfl ?_; simp only [pz]
  refine tkD 11 (some 21) rfl ?_; simp only [pz]
  refine tkD 12 (some 22) rfl ?_; simp only [pz]
  refine wpAnyH_ready (rs := [13, 14]) (by kernel_rfl) (by simp) ?_; refine (AllReadyH.cons (o := ⟨some 6, _, _, _, _, _⟩) rfl (fun K hK => ?_) (AllReadyH.cons (o := ⟨some 7, _, _, _, _, _⟩) rfl (fun K hK => ?_) AllReadyH.nil))
  ·go_simp
   all_goals (try go_wp2_with fail)
   refine hK.out _ _ ?_ (fun hH2 => ?_)
   ·(try dsimp only); obtain ⟨k1, k2, k3, k4, k5, k6, k7, k8, k9, k10, k11, k12, k13, k14, k15, k16, kB, kz⟩ := hHeld; exact ⟨cell_alloc k1, cell_alloc k2, cell_alloc k3, cell_alloc k4, cell_alloc k5, cell_alloc k6, cell_alloc k7, (frozen_alloc k7 k8), cell_alloc k9, (frozen_alloc k9 k10), cell_alloc k11, cell_alloc k12, cell_alloc k13, cell_alloc k14, cell_alloc k15, cell_alloc k16, bwz, (by first | (simp; done) | (simp at kz ⊢; omega) | omega)⟩
   clear hK K hHeld; (have hHeld := hH2); clear hH2; (try simp only [pz])
   have hx := hHeld; obtain ⟨k1, k2, k3, k4, k5, k6, k7, k8, k9, k10, k11, k12, k13, k14, k15, k16, kB, kz⟩ := hx; (first | (have zg13 := alloc_lt kB) | (have zg13 := alloc_lt2 kB rfl)); clear k1 k2 k3 k4 k5 k6 k7 k8 k9 k10 k11 k12 k13 k14 k15 k16 kB kz
   refine rd1 14 (some 7) rfl (fun K hK => ?_)
   have nq13 := Nat.ne_of_lt zg13; have nr13 := Nat.ne_of_gt zg13; go_simp
   all_goals (try go_wp2_with fail)
   refine hK.out _ _ ?_ (fun hH2 => ?_)
   ·(try dsimp only); obtain ⟨k1, k2, k3, k4, k5, k6, k7, k8, k9, k10, k11, k12, k13, k14, k15, k16, kB, kz⟩ := hHeld; exact ⟨cell_alloc k1, cell_alloc k2, cell_alloc k3, cell_alloc k4, cell_alloc k5, cell_alloc k6, cell_alloc k7, (frozen_alloc k7 k8), cell_alloc k9, (frozen_alloc k9 k10), cell_alloc k11, cell_alloc k12, cell_alloc k13, cell_alloc k14, cell_alloc k15, cell_alloc k16, bwz, (by first | (simp; done) | (simp at kz ⊢; omega) | omega)⟩
   clear hK K hHeld; (have hHeld := hH2); clear hH2; (try simp only [pz])
   have hx := hHeld; obtain ⟨k1, k2, k3, k4, k5, k6, k7, k8, k9, k10, k11, k12, k13, k14, k15, k16, kB, kz⟩ := hx; (first | (have zg14 := alloc_lt kB) | (have zg14 := alloc_lt2 kB rfl)); (first | (have zg13 := Nat.lt_trans zg13 zg14) | (have zg13 := Nat.lt_trans (show w.heap.size + 1 + 1 + 1 < w.heap.size + 1 + 1 + 1 + 1 by omega) zg14)); clear k1 k2 k3 k4 k5 k6 k7 k8 k9 k10 k11 k12 k13 k14 k15 k16 kB kz
   refine rd1 15 none rfl (fun K hK => ?_)
   go_simp
   all_goals (try go_wp2_with fail)
   refine hK.out _ _ ?_ (fun hH2 => ?_)
   ·(try dsimp only); first | (obtain ⟨k1, k2, k3, k4, k5, k6, k7, k8, k9, k10, k11, k12, k13, k14, k15, k16, kB, kz⟩ := hHeld; (have kz2 := kz); (try simp at kz2); exact ⟨crk k1, crk k2, crk k3, crk k4, crk k5, crk k6, crk k7, frk k8, crk k9, frk k10, crk k11, crk k12, crk k13, crk k14, crk k15, crk k16, (by with_reducible refine below_realloc kB ?_; omega), (by first | (simp; done) | (simp at kz ⊢; omega) | omega)⟩) | (obtain ⟨k1, k2, k3, k4, k5, k6, k7, k8, k9, k10, k11, k12, k13, k14, k15, k16, kB, kz⟩ := hHeld; exact ⟨csk k1, csk k2, csk k3, csk k4, csk k5, csk k6, csk k7, fsk k8, csk k9, fsk k10, csk k11, csk k12, csk k13, csk k14, csk k15, csk k16, bwz, (by first | (simp; done) | (simp at kz ⊢; omega) | omega)⟩)
   clear hK K hHeld; (have hHeld := hH2); clear hH2; (try simp only [pz])
   refine rd1 16 none rfl (fun K hK => ?_)
   go_simp
   all_goals (try go_wp2_with fail)
   refine hK.out _ _ ?_ (fun hH2 => ?_)
   ·(try dsimp only); first | (obtain ⟨k1, k2, k3, k4, k5, k6, k7, k8, k9, k10, k11, k12, k13, k14, k15, k16, kB, kz⟩ := hHeld; (have kz2 := kz); (try simp at kz2); exact ⟨crk k1, crk k2, crk k3, crk k4, crk k5, crk k6, crk k7, frk k8, crk k9, frk k10, crk k11, crk k12, crk k13, crk k14, crk k15, crk k16, (by with_reducible refine below_realloc kB ?_; omega), (by first | (simp; done) | (simp at kz ⊢; omega) | omega)⟩) | (obtain ⟨k1, k2, k3, k4, k5, k6, k7, k8, k9, k10, k11, k12, k13, k14, k15, k16, kB, kz⟩ := hHeld; exact ⟨csk k1, csk k2, csk k3, csk k4, csk k5, csk k6, csk k7, fsk k8, csk k9, fsk k10, csk k11, csk k12, csk k13, csk k14, csk k15, csk k16, bwz, (by first | (simp; done) | (simp at kz ⊢; omega) | omega)⟩)
   clear hK K hHeld; (have hHeld := hH2); clear hH2; (try simp only [pz])
   refine wpAnyH_done (by kernel_rfl) ?_ _; (try simp only [pz])
   obtain ⟨k1, k2, k3, k4, k5, k6, k7, k8, k9, k10, k11, k12, k13, k14, k15, k16, kB, kz⟩ := hHeld
   go_wp2_with fail
   go_meet
   exact ⟨_, _, rfl, rfl, (by omega), (by omega), k5, k6, k7, k8, k9, k10, (by go_simp; done), (by go_simp; done), kB, kz⟩
  ·go_simp
   all_goals (try go_wp2_with fail)
   refine hK.out _ _ ?_ (fun hH2 => ?_)
   ·(try dsimp only); obtain ⟨k1, k2, k3, k4, k5, k6, k7, k8, k9, k10, k11, k12, k13, k14, k15, k16, kB, kz⟩ := hHeld; exact ⟨cell_alloc k1, cell_alloc k2, cell_alloc k3, cell_alloc k4, cell_alloc k5, cell_alloc k6, cell_alloc k7, (frozen_alloc k7 k8), cell_alloc k9, (frozen_alloc k9 k10), cell_alloc k11, cell_alloc k12, cell_alloc k13, cell_alloc k14, cell_alloc k15, cell_alloc k16, bwz, (by first | (simp; done) | (simp at kz ⊢; omega) | omega)⟩
   clear hK K hHeld; (have hHeld := hH2); clear hH2; (try simp only [pz])
   have hx := hHeld; obtain ⟨k1, k2, k3, k4, k5, k6, k7, k8, k9, k10, k11, k12, k13, k14, k15, k16, kB, kz⟩ := hx; (first | (have zg14 := alloc_lt kB) | (have zg14 := alloc_lt2 kB rfl)); clear k1 k2 k3 k4 k5 k6 k7 k8 k9 k10 k11 k12 k13 k14 k15 k16 kB kz
   refine rd1 13 (some 6) rfl (fun K hK => ?_)
   have nq14 := Nat.ne_of_lt zg14; have nr14 := Nat.ne_of_gt zg14; go_simp
   all_goals (try go_wp2_with fail)
   refine hK.out _ _ ?_ (fun hH2 => ?_)
   ·(try dsimp only); obtain ⟨k1, k2, k3, k4, k5, k6, k7, k8, k9, k10, k11, k12, k13, k14, k15, k16, kB, kz⟩ := hHeld; exact ⟨cell_alloc k1, cell_alloc k2, cell_alloc k3, cell_alloc k4, cell_alloc k5, cell_alloc k6, cell_alloc k7, (frozen_alloc k7 k8), cell_alloc k9, (frozen_alloc k9 k10), cell_alloc k11, cell_alloc k12, cell_alloc k13, cell_alloc k14, cell_alloc k15, cell_alloc k16, bwz, (by first | (simp; done) | (simp at kz ⊢; omega) | omega)⟩
   clear hK K hHeld; (have hHeld := hH2); clear hH2; (try simp only [pz])
   have hx := hHeld; obtain ⟨k1, k2, k3, k4, k5, k6, k7, k8, k9, k10, k11, k12, k13, k14, k15, k16, kB, kz⟩ := hx; (first | (have zg13 := alloc_lt kB) | (have zg13 := alloc_lt2 kB rfl)); (first | (have zg14 := Nat.lt_trans zg14 zg13) | (have zg14 := Nat.lt_trans (show w.heap.size + 1 + 1 + 1 < w.heap.size + 1 + 1 + 1 + 1 by omega) zg13)); clear k1 k2 k3 k4 k5 k6 k7 k8 k9 k10 k11 k12 k13 k14 k15 k16 kB kz
   refine rd1 15 none rfl (fun K hK => ?_)
   go_simp
   all_goals (try go_wp2_with fail)
   refine hK.out _ _ ?_ (fun hH2 => ?_)
   ·(try dsimp only); first | (obtain ⟨k1, k2, k3, k4, k5, k6, k7, k8, k9, k10, k11, k12, k13, k14, k15, k16, kB, kz⟩ := hHeld; (have kz2 := kz); (try simp at kz2); exact ⟨crk k1, crk k2, crk k3, crk k4, crk k5, crk k6, crk k7, frk k8, crk k9, frk k10, crk k11, crk k12, crk k13, crk k14, crk k15, crk k16, (by with_reducible refine below_realloc kB ?_; omega), (by first | (simp; done) | (simp at kz ⊢; omega) | omega)⟩) | (obtain ⟨k1, k2, k3, k4, k5, k6, k7, k8, k9, k10, k11, k12, k13, k14, k15, k16, kB, kz⟩ := hHeld; exact ⟨csk k1, csk k2, csk k3, csk k4, csk k5, csk k6, csk k7, fsk k8, csk k9, fsk k10, csk k11, csk k12, csk k13, csk k14, csk k15, csk k16, bwz, (by first | (simp; done) | (simp at kz ⊢; omega) | omega)⟩)
   clear hK K hHeld; (have hHeld := hH2); clear hH2; (try simp only [pz])
   refine rd1 16 none rfl (fun K hK => ?_)
   go_simp
   all_goals (try go_wp2_with fail)
   refine hK.out _ _ ?_ (fun hH2 => ?_)
   ·(try dsimp only); first | (obtain ⟨k1, k2, k3, k4, k5, k6, k7, k8, k9, k10, k11, k12, k13, k14, k15, k16, kB, kz⟩ := hHeld; (have kz2 := kz); (try simp at kz2); exact ⟨crk k1, crk k2, crk k3, crk k4, crk k5, crk k6, crk k7, frk k8, crk k9, frk k10, crk k11, crk k12, crk k13, crk k14, crk k15, crk k16, (by with_reducible refine below_realloc kB ?_; omega), (by first | (simp; done) | (simp at kz ⊢; omega) | omega)⟩) | (obtain ⟨k1, k2, k3, k4, k5, k6, k7, k8, k9, k10, k11, k12, k13, k14, k15, k16, kB, kz⟩ := hHeld; exact ⟨csk k1, csk k2, csk k3, csk k4, csk k5, csk k6, csk k7, fsk k8, csk k9, fsk k10, csk k11, csk k12, csk k13, csk k14, csk k15, csk k16, bwz, (by first | (simp; done) | (simp at kz ⊢; omega) | omega)⟩)
   clear hK K hHeld; (have hHeld := hH2); clear hH2; (try simp only [pz])
   refine wpAnyH_done (by kernel_rfl) ?_ _; (try simp only [pz])
   obtain ⟨k1, k2, k3, k4, k5, k6, k7, k8, k9, k10, k11, k12, k13, k14, k15, k16, kB, kz⟩ := hHeld
   go_wp2_with fail
   go_meet
   exact ⟨_, _, rfl, rfl, (by omega), (by omega), k5, k6, k7, k8, k9, k10, (by go_simp; done), (by go_simp; done), kB, kz⟩
 case rest =>
  obtain ⟨gf, hf2, rfl, rfl, kg, kh, k1, k2, k3, k4, k5, k6, k7, k8, kB, kz⟩ := hcut
  have lg : gf < wc.heap.size := World.block_lt_of_cell? _ _ k7
  have lh : hf2 < wc.heap.size := World.block_lt_of_cell? _ _ k8
  have lr : w.heap.size + 1 + 1 < wc.heap.size := World.block_lt_of_cell? _ _ k3
  have lb : w.heap.size + 1 < wc.heap.size := by omega
  have v2 : IntKind.i64.wrap (T (l + 1) - T l) = T (l + 1) - T l := IntWalk.i64_in _ (by omega)
  have v3 : IntKind.i64.wrap (T l + q9) = T l + q9 := IntWalk.i64_in _ (by omega)
  clear c0 c1 c2 d0 d1 d2 we
  go_wp2_with (go_at_call 192; (with_reducible refine (KD.out _).mono ?_); rintro e w9 ⟨rfl, hb⟩; obtain ⟨hc, hf⟩ := bcell hb; have hz9 := hb.size)
  have mg : gf < w9.heap.size := by omega
  have mh : hf2 < w9.heap.size := by omega
  have mr : w.heap.size + 1 + 1 < w9.heap.size := by omega
  have mb : w.heap.size + 1 < w9.heap.size := by omega
  go_region
  all_goals go_wp2
  all_goals (simp [bodyPost, results, Tryz.results176, go_sem, *])
  all_goals exact bwz
set_option maxRecDepth 100000 in
set_option maxHeartbeats 8000000 in
theorem spec_l05Crossings (ax ay bx bY : Int) (b o n cap : Nat) (T U V : Nat → Int) (w : World) (h : RowAt w (some ⟨b, o, none⟩) n 3 (v3 T U V)) (hv : isTr n T U V = true) (hl : isSg ax ay bx bY = true) :
 Calls Tryz.prog 152 #[.agg #[.slice (some ⟨b, o, none⟩) n cap], .agg #[.int .i64 ax, .int .i64 ay, .int .i64 bx, .int .i64 bY]] w fun e w' => ∃ g cp, e = .returned (.slice (some ⟨g, 0, none⟩) (cxs ax ay bx bY U V (n - 1)).length cp) ∧ w'.ownsRow w.heap.size 156 5 (.slice (some ⟨g, 0, none⟩) (cxs ax ay bx bY U V (n - 1)).length cp) (cxs ax ay bx bY U V (n - 1)).length (cxCs ax ay bx bY T U V (cxs ax ay bx bY U V (n - 1))) ∧ Below w.heap.size w w' := by
 obtain ⟨hn2, hn40, hall⟩ := isTr_t hv
 obtain ⟨i1, hi, hz0, hz1', hz2'⟩ := info_parts infoCx
 have Hi := hide hi
 have Hz := hide (And.intro hz0 (And.intro hz1' hz2'))
 clear hi hz0 hz1' hz2'
 obtain ⟨la, lb, _⟩ := isSg_t hl
 obtain ⟨s1, s2⟩ := pt_sm la
 obtain ⟨s3, s4⟩ := pt_sm lb
 have KY := hide (fun (l : Nat) (hl : l + 1 < n) W => spec_l05Way ax ay bx bY (U l) (V l) (U (l + 1)) (V (l + 1)) s1 s2 s3 s4 (pt_sm (isTr_leg hv hl).2.2.2.1).1 (pt_sm (isTr_leg hv hl).2.2.2.1).2 (pt_sm (isTr_leg hv hl).2.2.2.2).1 (pt_sm (isTr_leg hv hl).2.2.2.2).2 W)
 have KP := hide (fun (l : Nat) (hll : l + 1 < n) (hw : ¬ wyL ax ay bx bY U V l = 0) W => spec_l02Place_ok ax ay bx bY (U l) (V l) (U (l + 1)) (V (l + 1)) hl (isTr_leg hv hll).2.2.2.1 (isTr_leg hv hll).2.2.2.2 hw W)
 have KE := hide (fun (l : Nat) (hll : l + 1 < n) (hw : ¬ wyL ax ay bx bY U V l = 0) (tm wy : Int) W (hb : Below w.heap.size w W) => spec_l05Exact b o n cap l T U V tm wy (cxN ax ay bx bY U V l) (cxD ax ay bx bY U V l) W (RowAt.later hb h) hv hll (cx_facts hl hv hll hw).1 (cx_facts hl hv hll hw).2.1 (cx_facts hl hv hll hw).2.2.1 (Int.le_trans (cx_facts hl hv hll hw).2.2.2 (by decide)))
 have HF := hide (fun (l : Nat) (hll : l + 1 < n) (hw : ¬ wyL ax ay bx bY U V l = 0) => cx_facts hl hv hll hw)
 have HT := hide (fun (l : Nat) (hll : l + 1 < n) => isTr_leg hv hll)
 have Hh := hide h
 clear h hv hl la lb s1 s2 s3 s4 hall
 go_enter Tryz.func152, Tryz.ntmps152
 go_wp2
 go_loopw [5, 6] (fun v i wr => ∃ k g9 cp9 : Nat, k + 1 ≤ n ∧ i = .int .i64 k ∧ v = .slice (some ⟨g9, 0, none⟩) (cxs ax ay bx bY U V k).length cp9 ∧ Hid (wr.ownsRow (w.heap.size + 1 + 1) 156 5 (.slice (some ⟨g9, 0, none⟩) (cxs ax ay bx bY U V k).length cp9) (cxs ax ay bx bY U V k).length (cxCs ax ay bx bY T U V (cxs ax ay bx bY U V k))) ∧ wr.cell? ⟨w.heap.size, 0, none⟩ = some (.slice (some ⟨b, o, none⟩) n cap) ∧ wr.cell? ⟨w.heap.size + 1, 0, none⟩ = some (.int .i64 ax) ∧ wr.cell? ⟨w.heap.size + 1, 1, none⟩ = some (.int .i64 ay) ∧ wr.cell? ⟨w.heap.size + 1, 2, none⟩ = some (.int .i64 bx) ∧ wr.cell? ⟨w.heap.size + 1, 3, none⟩ = some (.int .i64 bY) ∧ Below w.heap.size w wr) (fun _ i _ => n - (intOf i).toNat)
 case atStart =>
  refine ⟨0, w.heap.size + 1 + 1, 0, by omega, rfl, rfl, hide ?_, by go_simp, by go_simp, by go_simp, by go_simp, by go_simp, bwz⟩
  have hm := World.ownsRow_made (base := w.heap.size + 1 + 1) (e := 156) (size := 5) ((w.alloc (.cells #[.slice (some ⟨b, o, none⟩) n cap] 33)).alloc (.cells #[.int .i64 ax, .int .i64 ay, .int .i64 bx, .int .i64 bY] 27)) #[] 0 (by simp) (by decide) rfl
  simp only [size_al] at hm
  exact hm
 case round =>
  obtain ⟨k, g9, cp9, hk, rfl, rfl, HO, e0, e1, e2, e3, e4, hbl⟩ := hrel
  have hg9b := HO.out.lt g9 rfl
  have zr0 : w.heap.size < wr.heap.size := by omega
  have zr1 : w.heap.size + 1 < wr.heap.size := by omega
  have HBl := hide hbl
  have we : IntKind.i64.wrap ((k : Int) + 1) = (k : Int) + 1 := IntWalk.i64_in _ (by omega)
  by_cases hlt : k + 1 < n
  ·have hi1 : (k : Int) + 1 < (n : Int) := by omega
   have hi2 : (k : Int) < (n : Int) := by omega
   have hi4 : (0 : Int) ≤ (k : Int) := by omega
   have hi5 : (0 : Int) ≤ (k : Int) + 1 := by omega
   have hl9 := cxs_len ax ay bx bY U V k
   have Ky := fun W => (show wayI ax ay bx bY (U k) (V k) (U (k + 1)) (V (k + 1)) = wyL ax ay bx bY U V k from rfl) ▸ KY.out k hlt W
   obtain ⟨y9, hy9⟩ : ∃ v, v = wyL ax ay bx bY U V k := ⟨_, rfl⟩
   rw [← hy9] at Ky
   have Hy9 := hide hy9
   clear hy9
   obtain ⟨c0, c1, c2⟩ := (RowAt.later hbl Hh.out).on3 k (by omega)
   obtain ⟨c3, c4, c5⟩ := (RowAt.later hbl Hh.out).on3 (k + 1) hlt
   have hbs : b < wr.heap.size := World.block_lt_of_cell? _ _ c0
   clear hbl
   obtain ⟨a1, j1⟩ : ∃ v, v = U k := ⟨_, rfl⟩
   obtain ⟨a2, j2⟩ : ∃ v, v = V k := ⟨_, rfl⟩
   obtain ⟨a3, j3⟩ : ∃ v, v = U (k + 1) := ⟨_, rfl⟩
   obtain ⟨a4, j4⟩ : ∃ v, v = V (k + 1) := ⟨_, rfl⟩
   have Kp := hide (fun (hw : ¬ y9 = 0) W => (show cpN (crs ax ay bx bY a1 a2) (crs ax ay bx bY a3 a4) = cxN ax ay bx bY U V k by rw [j1, j2, j3, j4]; rfl) ▸ (show cpD (crs ax ay bx bY a1 a2) (crs ax ay bx bY a3 a4) = cxD ax ay bx bY U V k by rw [j1, j2, j3, j4]; rfl) ▸ j1 ▸ j2 ▸ j3 ▸ j4 ▸ KP.out k hlt (by rw [← Hy9.out]; exact hw) W)
   rw [← j1, ← j2, ← j3, ← j4] at Ky
   have Ky := hide Ky
   rw [← j1] at c1
   rw [← j2] at c2
   rw [← j3] at c4
   rw [← j4] at c5
   clear j1 j2 j3 j4
   go_upto_region 5 with fail
   go_cut [7, 8] (fun s7 s8 W => ∃ gp gq : Nat, s7 = .pointer (some ⟨gp, 0, none⟩) ∧ s8 = .pointer (some ⟨gq, 0, none⟩) ∧ W.cell? ⟨gp, 0, none⟩ = some (.int .i64 a1) ∧ W.cell? ⟨gp, 1, none⟩ = some (.int .i64 a2) ∧ W.cell? ⟨gq, 0, none⟩ = some (.int .i64 a3) ∧ W.cell? ⟨gq, 1, none⟩ = some (.int .i64 a4) ∧ Below wr.heap.size wr W)
   case first =>
    obtain ⟨wB, rfl⟩ : ∃ W : World, W = wr := ⟨_, rfl⟩
    refine wp_region_held_drew (S := fun W => Below wB.heap.size wB W) (by kernel_rfl) (Below.drew (by first | with_reducible exact Below.refl _ _ | with_reducible exact below_drewN (Below.refl _ _) _)) (fun hHeld => ?_)
    refine tkN 0 (some 24) rfl ?_; simp only [pz]
    refine tkL 1 (some 25) rfl ?_; simp only [pz]
    refine tkN 2 (some 26) rfl ?_; simp only [pz]
    refine tkN 3 (some 27) rfl ?_; simp only [pz]
    refine tkL 4 (some 28) rfl ?_; simp only [pz]
    refine tkN 6 (some 30) rfl ?_; simp only [pz]
    refine tkL 7 (some 31) rfl ?_; simp only [pz]
    refine tkN 8 (some 32) rfl ?_; simp only [pz]
    refine tkN 9 (some 33) rfl ?_; simp only [pz]
    refine tkN 10 (some 34) rfl ?_; simp only [pz]
    refine tkL 11 (some 35) rfl ?_; simp only [pz]
    refine wpAnyH_inv2 (fuel := 2) [5, 12, 13, 14] [] [29, 36, 7, 8] (fun uT L W => Below wB.heap.size wB W ∧ (L 5 → (uT 29) = (.agg #[.int .i64 a1, .int .i64 a2])) ∧ (L 12 → (uT 36) = (.agg #[.int .i64 a3, .int .i64 a4])) ∧ (L 13 → FBoxB wB 2 (uT 7) W) ∧ (L 14 → FBoxB wB 2 (uT 8) W) ∧ (L 13 → L 14 → uT 7 ≠ uT 8) ∧ True) (by decide) (by kernel_rfl) (by kernel_rfl) (by intro _ _ _ _ _ h; exact h) (fun uT L W hJ => hJ.1) (fun uT L hL => ⟨hHeld, fun k => absurd k (hL 5 (by decide)), fun k => absurd k (hL 12 (by decide)), fun k => absurd k (hL 13 (by decide)), fun k => absurd k (hL 14 (by decide)), fun k _ => absurd k (hL 13 (by decide)), trivial⟩) ?_ ?_ ?_
    ·refine sc1 29 ?_ ?_
     rotate_left
     refine sc1 36 ?_ ?_
     rotate_left
     refine sc1 7 ?_ ?_
     rotate_left
     refine sc1 8 ?_ ?_
     rotate_left
     exact StepsH.nil
     ·intro uT L W hn hd hJ
      obtain ⟨hk, f29, f36, f7, f8, n7_8, _⟩ := hJ
      intro K hK
      simp only [puts, pz]
      go_simp; (first | (go_at_call 100; (with_reducible refine (spec_l03Point _ _ _ _).mono ?_); rintro e w9 ⟨rfl, hb⟩; have hzz := hb.size; (try simp at hzz); obtain ⟨hc, hf⟩ := bcell hb))
      all_goals (try go_wp2_with fail)
      all_goals
       apply Shut.go4 (W := W) hK
       ·simp only [puts, pz]; rfl
       ·exact bez
       ·intro hb; exact ⟨bstep hk hb, fun _ => upd_same _ _ _, unz f36, unz fun h => FBoxB.later hb (f7 h), unz fun h => FBoxB.later hb (f8 h), fun k k2 => by rw [upd_ne uT _ (by decide), upd_ne uT _ (by decide)]; exact n7_8 (k.resolve_left (by decide)) (k2.resolve_left (by decide)), trivial⟩
     ·intro uT L W hn hd hJ
      obtain ⟨hk, f29, f36, f7, f8, n7_8, _⟩ := hJ
      intro K hK
      simp only [puts, pz]
      go_simp; (first | (go_at_call 100; (with_reducible refine (spec_l03Point _ _ _ _).mono ?_); rintro e w9 ⟨rfl, hb⟩; have hzz := hb.size; (try simp at hzz); obtain ⟨hc, hf⟩ := bcell hb))
      all_goals (try go_wp2_with fail)
      all_goals
       apply Shut.go4 (W := W) hK
       ·simp only [puts, pz]; rfl
       ·exact bez
       ·intro hb; exact ⟨bstep hk hb, unz f29, fun _ => upd_same _ _ _, unz fun h => FBoxB.later hb (f7 h), unz fun h => FBoxB.later hb (f8 h), fun k k2 => by rw [upd_ne uT _ (by decide), upd_ne uT _ (by decide)]; exact n7_8 (k.resolve_left (by decide)) (k2.resolve_left (by decide)), trivial⟩
     ·intro uT L W hn hd hJ
      obtain ⟨hk, f29, f36, f7, f8, n7_8, _⟩ := hJ
      intro K hK
      simp only [puts, pz]
      go_simp
      all_goals (try go_wp2_with fail)
      all_goals
       apply Shut.go4 (W := W) hK
       ·simp only [puts, pz]; rfl
       ·exact bez
       ·intro hb; exact ⟨bstep hk hb, unz f29, unz f36, fun _ => by rw [upd_same]; exact FBoxB.new (Below.size hk) _ _ (by rfl), unz fun h => FBoxB.later hb (f8 h), fun _ k => by rw [upd_same, upd_ne uT _ (by decide)]; exact FBoxB.ne_new (f8 (k.resolve_left (by decide))), trivial⟩
     ·intro uT L W hn hd hJ
      obtain ⟨hk, f29, f36, f7, f8, n7_8, _⟩ := hJ
      intro K hK
      simp only [puts, pz]
      go_simp
      all_goals (try go_wp2_with fail)
      all_goals
       apply Shut.go4 (W := W) hK
       ·simp only [puts, pz]; rfl
       ·exact bez
       ·intro hb; exact ⟨bstep hk hb, unz f29, unz f36, unz fun h => FBoxB.later hb (f7 h), fun _ => by rw [upd_same]; exact FBoxB.new (Below.size hk) _ _ (by rfl), fun k _ => by rw [upd_same, upd_ne uT _ (by decide)]; exact (FBoxB.ne_new (f7 (k.resolve_left (by decide)))).symm, trivial⟩
    ·exact PuresH.nil
    ·intro uT L W hJ hL
     obtain ⟨hk, f29, f36, f7, f8, n7_8, _⟩ := hJ
     obtain e29 := f29 (hL 5 (by kernel_rfl))
     obtain e36 := f36 (hL 12 (by kernel_rfl))
     obtain ⟨b7, e7, bb7, lb7, cb7⟩ := f7 (hL 13 (by kernel_rfl))
     obtain ⟨b8, e8, bb8, lb8, cb8⟩ := f8 (hL 14 (by kernel_rfl))
     have hne := n7_8 (hL 13 (by kernel_rfl)) (hL 14 (by kernel_rfl)); rw [e7, e8] at hne; simp at hne; have hne2 := Ne.symm hne
     clear hHeld; have hcW := (bcell hk).1; have hfW := (bcell hk).2; have lW := Below.size hk; have hHeld := hk
     clear f29
     clear f36
     clear f7
     clear f8
     clear n7_8
     simp only [puts, pz, Array.replicate, e29, e36, e7, e8]
     obtain ⟨⟨y7_0, cy7_0⟩, fy7_0⟩ := cb7 0 (by decide)
     obtain ⟨⟨y7_1, cy7_1⟩, fy7_1⟩ := cb7 1 (by decide)
     obtain ⟨⟨y8_0, cy8_0⟩, fy8_0⟩ := cb8 0 (by decide)
     obtain ⟨⟨y8_1, cy8_1⟩, fy8_1⟩ := cb8 1 (by decide)
     refine rd1 15 none rfl (fun K hK => ?_)
     go_simp
     all_goals (try go_wp2_with fail)
     refine hK.out _ _ ?_ (fun hH2 => ?_)
     ·exact bwz
     clear hK K hHeld; (have hHeld := hH2); clear hH2; (try simp only [Act.put])
     refine rd1 16 none rfl (fun K hK => ?_)
     go_simp
     all_goals (try go_wp2_with fail)
     refine hK.out _ _ ?_ (fun hH2 => ?_)
     ·exact bwz
     clear hK K hHeld; (have hHeld := hH2); clear hH2; (try simp only [Act.put])
     refine wpAnyH_done (by kernel_rfl) ?_ _; (try simp only [pz])
     go_wp2_with fail
     go_meet
     exact ⟨_, _, rfl, rfl, ctz, ctz, ctz, ctz, hHeld⟩
   case rest =>
    obtain ⟨gp, gq, rfl, rfl, q1, q2, q3, q4, rB⟩ := hcut
    have kp : gp < wc.heap.size := World.block_lt_of_cell? _ _ q1
    have kq : gq < wc.heap.size := World.block_lt_of_cell? _ _ q3
    have m0 := cell_later rB e0
    have m1 := cell_later rB e1
    have m2 := cell_later rB e2
    have m3 := cell_later rB e3
    have m4 := cell_later rB e4
    have HOS := hide (own_later rB HO.out)
    have HBS := hide (bstep HBl.out rB)
    have zS := rB.size
    have zS1 : w.heap.size + 1 < wc.heap.size := by omega
    have zS0 : w.heap.size < wc.heap.size := by omega
    clear rB e0 e1 e2 e3 e4 HO HBl c0 c1 c2 c3 c4 c5
    go_wp2_with fail; (with_reducible refine (Ky.out _).mono ?_); rintro e wV ⟨rfl, hb⟩
    have n0 := cell_later hb m0
    have n1 := cell_later hb m1
    have n2 := cell_later hb m2
    have n3 := cell_later hb m3
    have n4 := cell_later hb m4
    have r1 := cell_later hb q1
    have r2 := cell_later hb q2
    have r3 := cell_later hb q3
    have r4 := cell_later hb q4
    have HOV := hide (own_later hb HOS.out)
    have HBV := hide (bstep HBS.out hb)
    have zV := hb.size
    have zV1 : gp < wV.heap.size := by omega
    have zV4 : gq < wV.heap.size := by omega
    have zV2 : w.heap.size + 1 < wV.heap.size := by omega
    have zV3 : w.heap.size < wV.heap.size := by omega
    clear hb q1 q2 q3 q4 m0 m1 m2 m3 m4 HOS HBS Ky
    by_cases hy : y9 = 0
    ·have Hn := hide (cxs_no (k := k) (Hy9.out.symm.trans hy))
     subst hy
     clear r1 r2 r3 r4 Kp
     go_wp2
     go_roundw
     case rel => exact ⟨k + 1, g9, cp9, by omega, by go_num, by rw [Hn.out], by rw [Hn.out]; exact HOV, n0, n1, n2, n3, n4, HBV.out⟩
     case measure => simp [intOf]; omega
    ·have hyb : (y9 == 0) = false := beq_eq_false_iff_ne.2 hy
     have hyw := fun q => hy (Hy9.out.trans q)
     have Hn := hide (cxs_yes (k := k) hyw)
     obtain ⟨f1, f2, f3, f4⟩ := HF.out k hlt hyw
     obtain ⟨t0, t1, t2, _, _⟩ := HT.out k hlt
     obtain ⟨x1, x2, x3, x4⟩ := gone_bd (show 0 ≤ T (k + 1) - T k by omega) f1 f2 f3
     have Kp2 := hide (Kp.out hy)
     have Ke := hide (KE.out k hlt hyw)
     have hcC : cxC ax ay bx bY T U V k = [.int .i64 (T k + goneI (T (k + 1) - T k) (cxN ax ay bx bY U V k) (cxD ax ay bx bY U V k)), .int .i64 (k : Int), .int .i64 y9, .int .i64 (cxN ax ay bx bY U V k), .int .i64 (cxD ax ay bx bY U V k)] := by unfold cxC cxT; rw [← Hy9.out]
     have hgo : goneI (T (k + 1) - T k) (cxN ax ay bx bY U V k) (cxD ax ay bx bY U V k) = if 0 < (T (k + 1) - T k) * cxN ax ay bx bY U V k % cxD ax ay bx bY U V k then (T (k + 1) - T k) * cxN ax ay bx bY U V k / cxD ax ay bx bY U V k + 1 else (T (k + 1) - T k) * cxN ax ay bx bY U V k / cxD ax ay bx bY U V k := rfl
     generalize (T (k + 1) - T k) * cxN ax ay bx bY U V k / cxD ax ay bx bY U V k = q9 at *
     generalize (T (k + 1) - T k) * cxN ax ay bx bY U V k % cxD ax ay bx bY U V k = r9 at *
     have Hgo := hide hgo
     generalize goneI (T (k + 1) - T k) (cxN ax ay bx bY U V k) (cxD ax ay bx bY U V k) = o9 at *
     clear hgo hyw
     generalize cxN ax ay bx bY U V k = n9 at *
     generalize cxD ax ay bx bY U V k = d9 at *
     have HcC := hide hcC
     clear hcC
     go_wp2_with fail; (with_reducible refine (Kp2.out _).mono ?_); rintro e wP ⟨rfl, hb⟩
     have p0 := cell_later hb n0
     have p1 := cell_later hb n1
     have p2 := cell_later hb n2
     have p3 := cell_later hb n3
     have p4 := cell_later hb n4
     have hOP := own_later hb HOV.out
     have hBP := bstep HBV.out hb
     have zP := hb.size
     have zP0 : w.heap.size < wP.heap.size := by omega
     have zP1 : w.heap.size + 1 < wP.heap.size := by omega
     clear hb r1 r2 r3 r4 n0 n1 n2 n3 n4 HOV HBV Kp Kp2
     go_wp2_with fail; (with_reducible refine (Ke.out _ _ _ (Below.alloc (Below.alloc hBP (by omega) _) (by simp; omega) _)).mono ?_); rintro e wE ⟨rfl, hb⟩
     obtain ⟨wQ, hQ⟩ : ∃ W, W = (wP.alloc (.cells #[.int .i64 n9, .int .i64 d9] 94)).alloc (.cells #[.int .i64 0, .int .i64 k, .int .i64 y9, .int .i64 n9, .int .i64 d9] 156) := ⟨_, rfl⟩
     have sQ : wP.heap.size + 1 < wQ.heap.size := by rw [hQ]; simp
     have u0 : wQ.cell? ⟨wP.heap.size + 1, 0, none⟩ = some (.int .i64 0) := by rw [hQ]; go_simp
     have u1 : wQ.cell? ⟨wP.heap.size + 1, 1, none⟩ = some (.int .i64 k) := by rw [hQ]; go_simp
     have u2 : wQ.cell? ⟨wP.heap.size + 1, 2, none⟩ = some (.int .i64 y9) := by rw [hQ]; go_simp
     have u3 : wQ.cell? ⟨wP.heap.size + 1, 3, none⟩ = some (.int .i64 n9) := by rw [hQ]; go_simp
     have u4 : wQ.cell? ⟨wP.heap.size + 1, 4, none⟩ = some (.int .i64 d9) := by rw [hQ]; go_simp
     have uf : wQ.frozen? ⟨wP.heap.size + 1, 0, none⟩ = false := by rw [hQ]; go_simp
     have y0 := (hQ ▸ cell_alloc (cell_alloc p0) : wQ.cell? _ = _)
     have y1 := (hQ ▸ cell_alloc (cell_alloc p1) : wQ.cell? _ = _)
     have y2 := (hQ ▸ cell_alloc (cell_alloc p2) : wQ.cell? _ = _)
     have y3 := (hQ ▸ cell_alloc (cell_alloc p3) : wQ.cell? _ = _)
     have y4 := (hQ ▸ cell_alloc (cell_alloc p4) : wQ.cell? _ = _)
     have hOQ := (hQ ▸ (hOP.alloc _).alloc _ : wQ.ownsRow (w.heap.size + 1 + 1) 156 5 (.slice (some ⟨g9, 0, none⟩) (cxs ax ay bx bY U V k).length cp9) (cxs ax ay bx bY U V k).length (cxCs ax ay bx bY T U V (cxs ax ay bx bY U V k)))
     have hBQ := (hQ ▸ Below.alloc (Below.alloc hBP (by omega) _) (by simp; omega) _ : Below w.heap.size w wQ)
     rw [← hQ] at hb
     clear hQ p0 p1 p2 p3 p4 hOP hBP
     have h0 := cell_later hb y0
     have h1 := cell_later hb y1
     have h2 := cell_later hb y2
     have h3 := cell_later hb y3
     have h4 := cell_later hb y4
     have v0 := cell_later hb u0
     have v1 := cell_later hb u1
     have v2 := cell_later hb u2
     have v3 := cell_later hb u3
     have v4 := cell_later hb u4
     have vf := frozen_later hb u0 uf
     have hOW := own_later hb hOQ
     have HBW := hide (bstep hBQ hb)
     have zW := hb.size
     have zW1 : wP.heap.size + 1 < wE.heap.size := by omega
     have hg9P : g9 ≠ wP.heap.size + 1 := by have := hOQ.lt g9 rfl; omega
     clear hb y0 y1 y2 y3 y4 u0 u1 u2 u3 u4 uf hOQ hBQ
     go_upto_region 12 with fail
     obtain ⟨wX, hX⟩ : ∃ W, W = (wE.setCell ⟨wP.heap.size + 1, 0, none⟩ (.int .i64 (T k + q9))).alloc (.cells #[.int .i64 r9, .int .i64 d9] 94) := ⟨_, rfl⟩
     rw [← hX]
     have l0 : wX.cell? ⟨w.heap.size, 0, none⟩ = some (.slice (some ⟨b, o, none⟩) n cap) := by rw [hX]; exact cell_alloc (cell_off h0 (.inl (by show wP.heap.size + 1 ≠ w.heap.size; omega)))
     have l1 : wX.cell? ⟨w.heap.size + 1, 0, none⟩ = some (.int .i64 ax) := by rw [hX]; exact cell_alloc (cell_off h1 (.inl (by show wP.heap.size + 1 ≠ w.heap.size + 1; omega)))
     have l2 : wX.cell? ⟨w.heap.size + 1, 1, none⟩ = some (.int .i64 ay) := by rw [hX]; exact cell_alloc (cell_off h2 (.inl (by show wP.heap.size + 1 ≠ w.heap.size + 1; omega)))
     have l3 : wX.cell? ⟨w.heap.size + 1, 2, none⟩ = some (.int .i64 bx) := by rw [hX]; exact cell_alloc (cell_off h3 (.inl (by show wP.heap.size + 1 ≠ w.heap.size + 1; omega)))
     have l4 : wX.cell? ⟨w.heap.size + 1, 3, none⟩ = some (.int .i64 bY) := by rw [hX]; exact cell_alloc (cell_off h4 (.inl (by show wP.heap.size + 1 ≠ w.heap.size + 1; omega)))
     have ic0 : wX.cell? ⟨wP.heap.size + 1, 0, none⟩ = some (.int .i64 (T k + q9)) := by rw [hX]; exact cell_alloc (cell_same v0)
     have ic1 : wX.cell? ⟨wP.heap.size + 1, 1, none⟩ = some (.int .i64 (k)) := by rw [hX]; exact cell_alloc (cell_off v1 (.inr (by show 0 ≠ 1; decide)))
     have ic2 : wX.cell? ⟨wP.heap.size + 1, 2, none⟩ = some (.int .i64 (y9)) := by rw [hX]; exact cell_alloc (cell_off v2 (.inr (by show 0 ≠ 2; decide)))
     have ic3 : wX.cell? ⟨wP.heap.size + 1, 3, none⟩ = some (.int .i64 (n9)) := by rw [hX]; exact cell_alloc (cell_off v3 (.inr (by show 0 ≠ 3; decide)))
     have ic4 : wX.cell? ⟨wP.heap.size + 1, 4, none⟩ = some (.int .i64 (d9)) := by rw [hX]; exact cell_alloc (cell_off v4 (.inr (by show 0 ≠ 4; decide)))
     have if0 : wX.frozen? ⟨wP.heap.size + 1, 0, none⟩ = false := by rw [hX]; go_simp
     have ir : wX.cell? ⟨wE.heap.size, 0, none⟩ = some (.int .i64 r9) := by rw [hX]; go_simp
     have hOX := (by rw [hX]; exact (own_ne hOW hg9P).alloc _ : wX.ownsRow (w.heap.size + 1 + 1) 156 5 (.slice (some ⟨g9, 0, none⟩) (cxs ax ay bx bY U V k).length cp9) (cxs ax ay bx bY U V k).length (cxCs ax ay bx bY T U V (cxs ax ay bx bY U V k)))
     have HBX := hide (show Below w.heap.size w wX by rw [hX]; have hBW := HBW.out; exact bwz)
     have zX : wP.heap.size + 1 < wX.heap.size := World.block_lt_of_cell? _ _ ic0
     have zXw : w.heap.size + 1 < wX.heap.size := World.block_lt_of_cell? _ _ l1
     clear hX h0 h1 h2 h3 h4 v0 v1 v2 v3 v4 vf hOW HBW
     by_cases hr : 0 < r9
     ·have ho : o9 = q9 + 1 := by rw [Hgo.out, if_pos hr]
      have wt2 : IntKind.i64.wrap (T k + q9 + 1) = T k + q9 + 1 := IntWalk.i64_in _ (by omega)
      have HcC2 := hide (ho ▸ HcC.out)
      clear HcC ho Hgo x3 x4
      have hOY := own_ne (j := 0) (x := .int .i64 (T k + q9 + 1)) hOX hg9P
      have hBY := hide (show Below w.heap.size w (wX.setCell ⟨wP.heap.size + 1, 0, none⟩ (.int .i64 (T k + q9 + 1))) by have hBW := HBX.out; exact bwz)
      have o0 := cell_off (x := .int .i64 (T k + q9 + 1)) (p := ⟨wP.heap.size + 1, 0, none⟩) l0 (.inl (by show wP.heap.size + 1 ≠ w.heap.size; omega))
      have o1 := cell_off (x := .int .i64 (T k + q9 + 1)) (p := ⟨wP.heap.size + 1, 0, none⟩) l1 (.inl (by show wP.heap.size + 1 ≠ w.heap.size + 1; omega))
      have o2 := cell_off (x := .int .i64 (T k + q9 + 1)) (p := ⟨wP.heap.size + 1, 0, none⟩) l2 (.inl (by show wP.heap.size + 1 ≠ w.heap.size + 1; omega))
      have o3 := cell_off (x := .int .i64 (T k + q9 + 1)) (p := ⟨wP.heap.size + 1, 0, none⟩) l3 (.inl (by show wP.heap.size + 1 ≠ w.heap.size + 1; omega))
      have o4 := cell_off (x := .int .i64 (T k + q9 + 1)) (p := ⟨wP.heap.size + 1, 0, none⟩) l4 (.inl (by show wP.heap.size + 1 ≠ w.heap.size + 1; omega))
      go_upto_region 14 with fail
      go_wp2_with (at_builtin; refine wpList_append_lies _ rfl _ _ 180 rfl (w.heap.size + 1 + 1) 156 i1 _ 5 40 Tryz.underlying180 Hi.out Hz.out.1 Hz.out.2.1 Hz.out.2.2 rfl (by decide) _ _ _ rfl (hOY.alloc _) ⟨wX.heap.size, 0, none⟩ 1 1 [.int .i64 (T k + q9 + 1), .int .i64 (k : Int), .int .i64 y9, .int .i64 n9, .int .i64 d9] rfl rfl (new5b (by first | rfl | (simp; done))) (one5 _ _ _ _ _) (by decide) (by unfold maxLen; omega) (by omega) (by simp; omega) (wX.heap.size + 1) (by simp) ?_)
      intro g' cap' wZ hown' hgr' hat hlt'
      have hbZ := below_grown hOY (by first | omega | (simp; omega)) hgr'
      have z0 := cell_below hbZ (by omega) o0
      have z1 := cell_below hbZ (by omega) o1
      have z2 := cell_below hbZ (by omega) o2
      have z3 := cell_below hbZ (by omega) o3
      have z4 := cell_below hbZ (by omega) o4
      clear l0 l1 l2 l3 l4
      go_wp2
      go_roundw
      case rel => exact ⟨k + 1, g', cap', by omega, by go_num, by rw [Hn.out, List.length_append, List.length_singleton], by rw [Hn.out, List.length_append, List.length_singleton, cxCs_app, HcC2.out]; first | exact hown' | (rw [← Int.add_assoc]; exact hown'), z0, z1, z2, z3, z4, hBY.out.trans (hbZ.mono (by first | omega | (simp; omega)))⟩
      case measure => simp [intOf]; omega
     ·have ho : o9 = q9 := by rw [Hgo.out, if_neg hr]
      have HcC2 := hide (ho ▸ HcC.out)
      clear HcC ho Hgo x3 x4
      go_upto_region 14 with fail
      go_wp2_with (at_builtin; refine wpList_append_lies _ rfl _ _ 180 rfl (w.heap.size + 1 + 1) 156 i1 _ 5 40 Tryz.underlying180 Hi.out Hz.out.1 Hz.out.2.1 Hz.out.2.2 rfl (by decide) _ _ _ rfl (hOX.alloc _) ⟨wX.heap.size, 0, none⟩ 1 1 [.int .i64 (T k + q9), .int .i64 (k : Int), .int .i64 y9, .int .i64 n9, .int .i64 d9] rfl rfl (new5b (by first | rfl | (simp; done))) (one5 _ _ _ _ _) (by decide) (by unfold maxLen; omega) (by omega) (by simp; omega) (wX.heap.size + 1) (by simp) ?_)
      intro g' cap' wZ hown' hgr' hat hlt'
      have hbZ := below_grown hOX (by first | omega | (simp; omega)) hgr'
      have z0 := cell_below hbZ (by omega) l0
      have z1 := cell_below hbZ (by omega) l1
      have z2 := cell_below hbZ (by omega) l2
      have z3 := cell_below hbZ (by omega) l3
      have z4 := cell_below hbZ (by omega) l4
      clear l0 l1 l2 l3 l4
      go_wp2
      go_roundw
      case rel => exact ⟨k + 1, g', cap', by omega, by go_num, by rw [Hn.out, List.length_append, List.length_singleton], by rw [Hn.out, List.length_append, List.length_singleton, cxCs_app, HcC2.out]; first | exact hown' | (rw [← Int.add_assoc]; exact hown'), z0, z1, z2, z3, z4, HBX.out.trans (hbZ.mono (by first | omega | (simp; omega)))⟩
      case measure => simp [intOf]; omega
  ·obtain rfl : k = n - 1 := by omega
   go_wp2
   go_ret
   exact ⟨g9, cp9, rfl, HO.out.mono (by omega), HBl.out⟩
end Go.Proofs.YtgcdgdnmcdffoaaGreatDoor
/- Walks: the first crossing forward at or behind a time, of both. -/
namespace Go.Proofs.YtgcdgdnmcdffoaaGreatDoor
open Go.RowKit

theorem own_cx {w : World} {B : Nat} {e : TypeId} {g cp m : Nat} {ax ay bx bY : Int} {T U V : Nat → Int} {L : List Nat} (h : w.ownsRow B e 5 (.slice (some ⟨g, 0, none⟩) m cp) m (cxCs ax ay bx bY T U V L)) (i : Nat) (hi : i < L.length) :
 w.cell? ⟨g, i * 5, none⟩ = some (.int .i64 (cxT ax ay bx bY T U V (L[i]?.getD 0))) ∧ w.cell? ⟨g, i * 5 + 1, none⟩ = some (.int .i64 ((L[i]?.getD 0 : Nat) : Int)) ∧ w.cell? ⟨g, i * 5 + 2, none⟩ = some (.int .i64 (wyL ax ay bx bY U V (L[i]?.getD 0))) ∧ w.cell? ⟨g, i * 5 + 3, none⟩ = some (.int .i64 (cxN ax ay bx bY U V (L[i]?.getD 0))) ∧ w.cell? ⟨g, i * 5 + 4, none⟩ = some (.int .i64 (cxD ax ay bx bY U V (L[i]?.getD 0))) := by
 have k : ∀ j v, j < 5 → (cxC ax ay bx bY T U V (L[i]?.getD 0))[j]? = some v → w.cell? ⟨g, i * 5 + j, none⟩ = some v := fun j v hj hv => by
  have := h.cells (g := g) rfl (i * 5 + j) v ((cxCs_at ax ay bx bY T U V L i j hi hj).trans hv)
  rwa [Addr.add_lit, Nat.zero_add] at this
 exact ⟨k 0 _ (by decide) rfl, k 1 _ (by decide) rfl, k 2 _ (by decide) rfl, k 3 _ (by decide) rfl, k 4 _ (by decide) rfl⟩
theorem fcT_drop (ax ay bx bY : Int) (T U V : Nat → Int) (fr : Int) (L : List Nat) (i : Nat) (hi : i < L.length) :
 fcT ax ay bx bY T U V fr (L.drop i) = if wyL ax ay bx bY U V (L[i]?.getD 0) = 1 ∧ fr ≤ cxT ax ay bx bY T U V (L[i]?.getD 0) then cxT ax ay bx bY T U V (L[i]?.getD 0) else fcT ax ay bx bY T U V fr (L.drop (i + 1)) := by
 rw [List.drop_eq_getElem_cons hi, List.getElem?_eq_getElem hi]
 rfl
theorem fcT_end (ax ay bx bY : Int) (T U V : Nat → Int) (fr : Int) (L : List Nat) : fcT ax ay bx bY T U V fr (L.drop L.length) = -1 := by rw [List.drop_length]; rfl
/-- What the first crossing is answered with. -/
def RetF (w : World) (f : Int) (e : Ending) (w' : World) : Prop := (∃ x1 x2 x3 x4 x5 : Int, e = .returned (.tuple #[.agg #[.int .i64 x1, .int .i64 x2, .int .i64 x3, .int .i64 x4, .int .i64 x5], .bool (decide (0 ≤ f))]) ∧ (0 ≤ f → x1 = f)) ∧ Below w.heap.size w w'
set_option maxRecDepth 100000 in
set_option maxHeartbeats 8000000 in
theorem impl_firstCrossing (ax ay bx bY : Int) (b o n cap : Nat) (T U V : Nat → Int) (fr : Int) (w : World) (h : RowAt w (some ⟨b, o, none⟩) n 3 (v3 T U V)) (hv : isTr n T U V = true) (hl : isSg ax ay bx bY = true) :
 Calls Tryz.prog 128 #[.agg #[.slice (some ⟨b, o, none⟩) n cap], .agg #[.int .i64 ax, .int .i64 ay, .int .i64 bx, .int .i64 bY], .int .i64 1, .int .i64 fr] w (RetF w (fcT ax ay bx bY T U V fr (cxs ax ay bx bY U V (n - 1)))) := by
 obtain ⟨hn2, hn40, _⟩ := isTr_t hv
 have KC := hide (fun W (hb : Below w.heap.size w W) => impl_crossingsOf ax ay bx bY b o n cap T U V W (RowAt.later hb h) hv hl)
 have hbd : ∀ i, i < (cxs ax ay bx bY U V (n - 1)).length → 0 ≤ cxT ax ay bx bY T U V ((cxs ax ay bx bY U V (n - 1))[i]?.getD 0) := fun i hi => by
  rw [List.getElem?_eq_getElem hi]
  obtain ⟨h1, h2⟩ := cxs_mem ax ay bx bY U V (n - 1) _ (List.getElem_mem hi)
  exact (cxT_bd hl hv (by show (cxs ax ay bx bY U V (n - 1))[i] + 1 < n; omega) h2).1
 have hlen := cxs_len ax ay bx bY U V (n - 1)
 generalize cxs ax ay bx bY U V (n - 1) = Lx at *
 obtain ⟨f9, hf9⟩ : ∃ v, v = fcT ax ay bx bY T U V fr Lx := ⟨_, rfl⟩
 rw [← hf9]
 have Hf9 := hide hf9
 have Hbd := hide hbd
 clear h hv hl hf9 hbd
 have hMn : ∀ (W : World), Mine ((W.alloc (.cells #[.int .i64 0, .int .i64 0, .int .i64 0, .int .i64 0, .int .i64 0] 156))) W.heap.size 5 := fun W => mine_make rfl
 go_enter Tryz.func128, Tryz.ntmps128
 go_upto_region 1 with fail
 obtain ⟨wT, hT⟩ : ∃ W, W = ((w.alloc (.cells #[.slice (some ⟨b, o, none⟩) n cap] 33)).alloc (.cells #[.int .i64 ax, .int .i64 ay, .int .i64 bx, .int .i64 bY] 27)).alloc (.cells #[.int .i64 0, .int .i64 0, .int .i64 0, .int .i64 0, .int .i64 0] 156) := ⟨_, rfl⟩
 have m0 : wT.cell? ⟨w.heap.size, 0, none⟩ = some (.slice (some ⟨b, o, none⟩) n cap) := by rw [hT]; go_simp
 have m1 : wT.cell? ⟨w.heap.size + 1, 0, none⟩ = some (.int .i64 ax) := by rw [hT]; go_simp
 have m2 : wT.cell? ⟨w.heap.size + 1, 1, none⟩ = some (.int .i64 ay) := by rw [hT]; go_simp
 have m3 : wT.cell? ⟨w.heap.size + 1, 2, none⟩ = some (.int .i64 bx) := by rw [hT]; go_simp
 have m4 : wT.cell? ⟨w.heap.size + 1, 3, none⟩ = some (.int .i64 bY) := by rw [hT]; go_simp
 have HM := hide (show Mine wT (w.heap.size + 1 + 1) 5 by
  rw [hT]
  have := hMn ((w.alloc (.cells #[.slice (some ⟨b, o, none⟩) n cap] 33)).alloc (.cells #[.int .i64 ax, .int .i64 ay, .int .i64 bx, .int .i64 bY] 27))
  simpa using this)
 have HBT := hide (show Below w.heap.size w wT by rw [hT]; exact bwz)
 rw [← hT]
 clear hT hMn
 go_wp2_with fail; (with_reducible refine (KC.out _ HBT.out).mono ?_); rintro e wA ⟨g9, cp9, rfl, hown, hb⟩
 have hgl := (hown.lt g9 rfl).2
 have hgb := (hown.lt g9 rfl).1
 have HO := hide hown
 have HMA := hide (Mine.later hb HM.out)
 have HBA := hide (bstep HBT.out hb)
 have hBA := HBA.out
 have zT := (show w.heap.size + 1 + 1 < wT.heap.size from World.block_lt_of_cell? _ _ (Classical.choose_spec (HM.out 0 (by decide)).1))
 have zA := hb.size
 clear hown hb m0 m1 m2 m3 m4 HM KC
 go_wp2
 go_loopw [16] (fun s1 wr => ∃ i : Nat, i ≤ Lx.length ∧ s1 = .int .i64 i ∧ Hid (f9 = fcT ax ay bx bY T U V fr (Lx.drop i)) ∧ Hid (Mine wr (w.heap.size + 1 + 1) 5) ∧ Below wA.heap.size wA wr) (fun i _ => Lx.length - (intOf i).toNat)
 case atStart => exact ⟨0, Nat.zero_le _, rfl, hide (by rw [List.drop_zero]; exact Hf9.out), HMA, Below.refl _ _⟩
 case round =>
  obtain ⟨i, hi, rfl, HI, HMr, hbr⟩ := hrel
  have zr := hbr.size
  have zr2 : w.heap.size + 1 + 1 < wr.heap.size := by omega
  have zrg : g9 < wr.heap.size := by omega
  by_cases hlt : i < Lx.length
  ·have hst := HI.out
   rw [fcT_drop ax ay bx bY T U V fr Lx i hlt] at hst
   obtain ⟨c0, c1, c2, c3, c4⟩ := own_cx HO.out i hlt
   have d0 := cell_later hbr c0
   have d1 := cell_later hbr c1
   have d2 := cell_later hbr c2
   have d3 := cell_later hbr c3
   have d4 := cell_later hbr c4
   have ht0 := Hbd.out i hlt
   obtain ⟨⟨x0, e0⟩, f0⟩ := HMr.out 0 (by decide)
   obtain ⟨⟨x1, e1⟩, f1⟩ := HMr.out 1 (by decide)
   obtain ⟨⟨x2, e2⟩, f2⟩ := HMr.out 2 (by decide)
   obtain ⟨⟨x3, e3⟩, f3⟩ := HMr.out 3 (by decide)
   obtain ⟨⟨x4, e4⟩, f4⟩ := HMr.out 4 (by decide)
   clear c0 c1 c2 c3 c4
   generalize cxT ax ay bx bY T U V (Lx[i]?.getD 0) = tm at *
   generalize wyL ax ay bx bY U V (Lx[i]?.getD 0) = wy at *
   generalize cxN ax ay bx bY U V (Lx[i]?.getD 0) = n9 at *
   generalize cxD ax ay bx bY U V (Lx[i]?.getD 0) = d9 at *
   generalize ((Lx[i]?.getD 0 : Nat) : Int) = l9 at *
   have hj1 : (0 : Int) ≤ (i : Int) := by omega
   have hj2 : (i : Int) < (Lx.length : Int) := by omega
   obtain ⟨m9, hm9⟩ : ∃ m : Nat, m = Lx.length := ⟨_, rfl⟩
   rw [← hm9] at hj2 ⊢
   by_cases hw : wy = 1
   ·have hwb : (wy == 1) = true := beq_iff_eq.2 hw
    by_cases hf : fr ≤ tm
    ·rw [if_pos ⟨hw, hf⟩] at hst
     have He := hide hst
     clear hst HI hw hm9
     go_wp2
     simp [bodyPost, results, Tryz.results128, go_sem, *]
     all_goals exact ⟨⟨_, _, _, _, _, by rw [show decide (0 ≤ f9) = true from decide_eq_true (by rw [He.out]; exact ht0)], fun _ => He.out.symm⟩, bwz⟩
    ·rw [if_neg (fun q => hf q.2)] at hst
     have He := hide hst
     clear hst HI hw
     go_wp2
     go_roundw
     case rel => exact ⟨i + 1, by omega, by go_num, He, hide (Mine.later (Below.alloc (Below.refl _ _) (Nat.le_refl _) _) HMr.out), bwz⟩
     case measure => simp [intOf]; omega
   ·have hwb : (wy == 1) = false := beq_eq_false_iff_ne.2 hw
    rw [if_neg (fun q => hw q.1)] at hst
    have He := hide hst
    clear hst HI hw
    go_wp2
    go_roundw
    case rel => exact ⟨i + 1, by omega, by go_num, He, hide (Mine.later (Below.alloc (Below.refl _ _) (Nat.le_refl _) _) HMr.out), bwz⟩
    case measure => simp [intOf]; omega
  ·obtain rfl : i = Lx.length := by omega
   have he := HI.out
   rw [fcT_end] at he
   have He := hide he
   obtain ⟨⟨x0, e0⟩, f0⟩ := HMr.out 0 (by decide)
   obtain ⟨⟨x1, e1⟩, f1⟩ := HMr.out 1 (by decide)
   obtain ⟨⟨x2, e2⟩, f2⟩ := HMr.out 2 (by decide)
   obtain ⟨⟨x3, e3⟩, f3⟩ := HMr.out 3 (by decide)
   obtain ⟨⟨x4, e4⟩, f4⟩ := HMr.out 4 (by decide)
   clear he HI
   go_wp2
   simp [bodyPost, results, Tryz.results128, go_sem, *]
   all_goals exact ⟨⟨_, _, _, _, _, by rw [show decide (0 ≤ f9) = false from decide_eq_false (by rw [He.out]; decide)], fun q => absurd q (by rw [He.out]; decide)⟩, bwz⟩
set_option maxRecDepth 100000 in
set_option maxHeartbeats 8000000 in
theorem spec_l05First (ax ay bx bY : Int) (b o n cap : Nat) (T U V : Nat → Int) (fr : Int) (w : World) (h : RowAt w (some ⟨b, o, none⟩) n 3 (v3 T U V)) (hv : isTr n T U V = true) (hl : isSg ax ay bx bY = true) :
 Calls Tryz.prog 120 #[.agg #[.slice (some ⟨b, o, none⟩) n cap], .agg #[.int .i64 ax, .int .i64 ay, .int .i64 bx, .int .i64 bY], .int .i64 1, .int .i64 fr] w (RetF w (fcT ax ay bx bY T U V fr (cxs ax ay bx bY U V (n - 1)))) := by
 obtain ⟨hn2, hn40, _⟩ := isTr_t hv
 have KC := hide (fun W (hb : Below w.heap.size w W) => spec_l05Crossings ax ay bx bY b o n cap T U V W (RowAt.later hb h) hv hl)
 have hbd : ∀ i, i < (cxs ax ay bx bY U V (n - 1)).length → 0 ≤ cxT ax ay bx bY T U V ((cxs ax ay bx bY U V (n - 1))[i]?.getD 0) := fun i hi => by
  rw [List.getElem?_eq_getElem hi]
  obtain ⟨h1, h2⟩ := cxs_mem ax ay bx bY U V (n - 1) _ (List.getElem_mem hi)
  exact (cxT_bd hl hv (by show (cxs ax ay bx bY U V (n - 1))[i] + 1 < n; omega) h2).1
 have hlen := cxs_len ax ay bx bY U V (n - 1)
 generalize cxs ax ay bx bY U V (n - 1) = Lx at *
 obtain ⟨f9, hf9⟩ : ∃ v, v = fcT ax ay bx bY T U V fr Lx := ⟨_, rfl⟩
 rw [← hf9]
 have Hf9 := hide hf9
 have Hbd := hide hbd
 clear h hv hl hf9 hbd
 have hMn : ∀ (W : World), Mine ((W.alloc (.cells #[.int .i64 0, .int .i64 0, .int .i64 0, .int .i64 0, .int .i64 0] 156))) W.heap.size 5 := fun W => mine_make rfl
 go_enter Tryz.func120, Tryz.ntmps120
 go_upto_region 1 with fail
 obtain ⟨wT, hT⟩ : ∃ W, W = ((w.alloc (.cells #[.slice (some ⟨b, o, none⟩) n cap] 33)).alloc (.cells #[.int .i64 ax, .int .i64 ay, .int .i64 bx, .int .i64 bY] 27)).alloc (.cells #[.int .i64 0, .int .i64 0, .int .i64 0, .int .i64 0, .int .i64 0] 156) := ⟨_, rfl⟩
 have m0 : wT.cell? ⟨w.heap.size, 0, none⟩ = some (.slice (some ⟨b, o, none⟩) n cap) := by rw [hT]; go_simp
 have m1 : wT.cell? ⟨w.heap.size + 1, 0, none⟩ = some (.int .i64 ax) := by rw [hT]; go_simp
 have m2 : wT.cell? ⟨w.heap.size + 1, 1, none⟩ = some (.int .i64 ay) := by rw [hT]; go_simp
 have m3 : wT.cell? ⟨w.heap.size + 1, 2, none⟩ = some (.int .i64 bx) := by rw [hT]; go_simp
 have m4 : wT.cell? ⟨w.heap.size + 1, 3, none⟩ = some (.int .i64 bY) := by rw [hT]; go_simp
 have HM := hide (show Mine wT (w.heap.size + 1 + 1) 5 by
  rw [hT]
  have := hMn ((w.alloc (.cells #[.slice (some ⟨b, o, none⟩) n cap] 33)).alloc (.cells #[.int .i64 ax, .int .i64 ay, .int .i64 bx, .int .i64 bY] 27))
  simpa using this)
 have HBT := hide (show Below w.heap.size w wT by rw [hT]; exact bwz)
 rw [← hT]
 clear hT hMn
 go_wp2_with fail; (with_reducible refine (KC.out _ HBT.out).mono ?_); rintro e wA ⟨g9, cp9, rfl, hown, hb⟩
 have hgl := (hown.lt g9 rfl).2
 have hgb := (hown.lt g9 rfl).1
 have HO := hide hown
 have HMA := hide (Mine.later hb HM.out)
 have HBA := hide (bstep HBT.out hb)
 have hBA := HBA.out
 have zT := (show w.heap.size + 1 + 1 < wT.heap.size from World.block_lt_of_cell? _ _ (Classical.choose_spec (HM.out 0 (by decide)).1))
 have zA := hb.size
 clear hown hb m0 m1 m2 m3 m4 HM KC
 go_wp2
 go_loopw [11] (fun s1 wr => ∃ i : Nat, i ≤ Lx.length ∧ s1 = .int .i64 i ∧ Hid (f9 = fcT ax ay bx bY T U V fr (Lx.drop i)) ∧ Hid (Mine wr (w.heap.size + 1 + 1) 5) ∧ Below wA.heap.size wA wr) (fun i _ => Lx.length - (intOf i).toNat)
 case atStart => exact ⟨0, Nat.zero_le _, rfl, hide (by rw [List.drop_zero]; exact Hf9.out), HMA, Below.refl _ _⟩
 case round =>
  obtain ⟨i, hi, rfl, HI, HMr, hbr⟩ := hrel
  have zr := hbr.size
  have zr2 : w.heap.size + 1 + 1 < wr.heap.size := by omega
  have zrg : g9 < wr.heap.size := by omega
  by_cases hlt : i < Lx.length
  ·have hst := HI.out
   rw [fcT_drop ax ay bx bY T U V fr Lx i hlt] at hst
   obtain ⟨c0, c1, c2, c3, c4⟩ := own_cx HO.out i hlt
   have d0 := cell_later hbr c0
   have d1 := cell_later hbr c1
   have d2 := cell_later hbr c2
   have d3 := cell_later hbr c3
   have d4 := cell_later hbr c4
   have ht0 := Hbd.out i hlt
   obtain ⟨⟨x0, e0⟩, f0⟩ := HMr.out 0 (by decide)
   obtain ⟨⟨x1, e1⟩, f1⟩ := HMr.out 1 (by decide)
   obtain ⟨⟨x2, e2⟩, f2⟩ := HMr.out 2 (by decide)
   obtain ⟨⟨x3, e3⟩, f3⟩ := HMr.out 3 (by decide)
   obtain ⟨⟨x4, e4⟩, f4⟩ := HMr.out 4 (by decide)
   clear c0 c1 c2 c3 c4
   generalize cxT ax ay bx bY T U V (Lx[i]?.getD 0) = tm at *
   generalize wyL ax ay bx bY U V (Lx[i]?.getD 0) = wy at *
   generalize cxN ax ay bx bY U V (Lx[i]?.getD 0) = n9 at *
   generalize cxD ax ay bx bY U V (Lx[i]?.getD 0) = d9 at *
   generalize ((Lx[i]?.getD 0 : Nat) : Int) = l9 at *
   have hj1 : (0 : Int) ≤ (i : Int) := by omega
   have hj2 : (i : Int) < (Lx.length : Int) := by omega
   obtain ⟨m9, hm9⟩ : ∃ m : Nat, m = Lx.length := ⟨_, rfl⟩
   rw [← hm9] at hj2 ⊢
   by_cases hw : wy = 1
   ·have hwb : (wy == 1) = true := beq_iff_eq.2 hw
    by_cases hf : fr ≤ tm
    ·rw [if_pos ⟨hw, hf⟩] at hst
     have He := hide hst
     clear hst HI hw hm9
     go_wp2
     simp [bodyPost, results, Tryz.results120, go_sem, *]
     all_goals exact ⟨⟨_, _, _, _, _, by rw [show decide (0 ≤ f9) = true from decide_eq_true (by rw [He.out]; exact ht0)], fun _ => He.out.symm⟩, bwz⟩
    ·rw [if_neg (fun q => hf q.2)] at hst
     have He := hide hst
     clear hst HI hw
     go_wp2
     go_roundw
     case rel => exact ⟨i + 1, by omega, by go_num, He, HMr, bwz⟩
     case measure => simp [intOf]; omega
   ·have hwb : (wy == 1) = false := beq_eq_false_iff_ne.2 hw
    rw [if_neg (fun q => hw q.1)] at hst
    have He := hide hst
    clear hst HI hw
    go_wp2
    go_roundw
    case rel => exact ⟨i + 1, by omega, by go_num, He, HMr, bwz⟩
    case measure => simp [intOf]; omega
  ·obtain rfl : i = Lx.length := by omega
   have he := HI.out
   rw [fcT_end] at he
   have He := hide he
   obtain ⟨⟨x0, e0⟩, f0⟩ := HMr.out 0 (by decide)
   obtain ⟨⟨x1, e1⟩, f1⟩ := HMr.out 1 (by decide)
   obtain ⟨⟨x2, e2⟩, f2⟩ := HMr.out 2 (by decide)
   obtain ⟨⟨x3, e3⟩, f3⟩ := HMr.out 3 (by decide)
   obtain ⟨⟨x4, e4⟩, f4⟩ := HMr.out 4 (by decide)
   clear he HI
   go_wp2
   simp [bodyPost, results, Tryz.results120, go_sem, *]
   all_goals exact ⟨⟨_, _, _, _, _, by rw [show decide (0 ≤ f9) = false from decide_eq_false (by rw [He.out]; decide)], fun q => absurd q (by rw [He.out]; decide)⟩, bwz⟩
end Go.Proofs.YtgcdgdnmcdffoaaGreatDoor
