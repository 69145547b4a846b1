/- Walks: math/bits.Div64 where the quotient is below 2^31. -/
import Derived.Test.YtiokigjnacmilaaGreatDoorGd
import Derived.Shelf.Small.Bits
import Derived.LoopTactic
import Derived.Deep.DeepCutAuto
import Derived.Lib.ItoaNum
namespace Go.Proofs.YtiokigjnacmilaaGreatDoor
open Go.RowKit Go.Shelf

def lzRen : Go.Shelf.Ren := ⟨fun | 129 => 131 | 134 => 125 | n => n, fun | 3 => 3 | 4 => 4 | 5 => 5 | 9 => 9 | 46 => 159 | 53 => 155 | n => n, fun | n => n⟩
theorem lzLays : Go.Proofs.Lays.n134 Tryz.prog lzRen := {
  mixed := by kernel_rfl
  f129 := Tryz.func131.trans (congrArg some (by kernel_rfl))
  f134 := Tryz.func125.trans (congrArg some (by kernel_rfl))
  t3 := Tryz.underlying3
  a3 := Tryz.isAgg3
  z3 := Tryz.sizeOf3
  v3 := Tryz.zeroValue3
  t4 := Tryz.underlying4
  a4 := Tryz.isAgg4
  z4 := Tryz.sizeOf4
  v4 := Tryz.zeroValue4
  t5 := Tryz.underlying5
  a5 := Tryz.isAgg5
  z5 := Tryz.sizeOf5
  v5 := Tryz.zeroValue5
  t9 := Tryz.underlying9
  a9 := Tryz.isAgg9
  z9 := Tryz.sizeOf9
  v9 := Tryz.zeroValue9
  t46 := Tryz.underlying159
  a46 := Tryz.isAgg159
  z46 := Tryz.sizeOf159
  v46 := Tryz.zeroValue159
  t53 := Tryz.underlying155
  a53 := Tryz.isAgg155
  z53 := Tryz.sizeOf155
  v53 := Tryz.zeroValue155 }
/-- How far a number of 1 to 2^63 - 1 is shifted so that its first bit is the highest. -/
theorem lz_shift (y : Int) (h1 : 1 ≤ y) (h2 : y ≤ 9223372036854775807) : ∃ s t : Nat, 64 - (Lib.bitLen y.toNat : Int) = (s : Int) ∧ 1 ≤ s ∧ s ≤ 63 ∧ s + t = 64 ∧ 9223372036854775808 ≤ y * 2 ^ s ∧ y * 2 ^ s < 18446744073709551616 := by
  obtain ⟨n, rfl⟩ := Int.eq_ofNat_of_zero_le (show 0 ≤ y by omega)
  rw [Int.toNat_natCast]
  obtain ⟨a, b, c⟩ := Lib.bitLenAux_bounds 64 n (by omega) (by omega)
  have l := Lib.bitLen_le n 63 (by decide) (by omega)
  have e : Lib.bitLenAux 64 n = Lib.bitLen n := rfl
  rw [e] at a b c
  generalize Lib.bitLen n = L at *
  refine ⟨64 - L, L, by omega, by omega, by omega, by omega, ?_, ?_⟩
  · have h5 := Nat.mul_le_mul_right (2 ^ (64 - L)) b
    rw [← Nat.pow_add, show L - 1 + (64 - L) = 63 by omega] at h5
    have h6 : ((n * 2 ^ (64 - L) : Nat) : Int) = (n : Int) * 2 ^ (64 - L) := by rw [Int.natCast_mul, Int.natCast_pow]; rfl
    rw [← h6]
    omega
  · have h5 := (Nat.mul_lt_mul_right (Nat.two_pow_pos (64 - L))).2 c
    rw [← Nat.pow_add, show L + (64 - L) = 64 by omega] at h5
    have h6 : ((n * 2 ^ (64 - L) : Nat) : Int) = (n : Int) * 2 ^ (64 - L) := by rw [Int.natCast_mul, Int.natCast_pow]; rfl
    rw [← h6]
    omega
theorem bits_LeadingZeros64 (y : Int) (h0 : 0 ≤ y) (h1 : y ≤ 18446744073709551615) (w : World) :
    Calls Tryz.prog 125 #[.int .u64 y] w fun e w' => e = .returned (.int .i64 (64 - (Lib.bitLen y.toNat : Int))) ∧ w = w' :=
  (Any.bits_LeadingZeros64 lzLays y w h0 h1).mono fun _ _ h => ⟨h.1, h.2.symm⟩
/-- The shifted dividend in two words. -/
theorem dv_norm (hi lo P T : Int) (hP : 1 ≤ P) (hT : 1 ≤ T) (hPT : P * T = 18446744073709551616) :
    (hi * 18446744073709551616 + lo) * P = (hi * P + lo / T) * 18446744073709551616 + lo * P % 18446744073709551616 := by
  have e1 := Int.emod_add_mul_ediv (lo * P) 18446744073709551616
  have e2 : lo * P / 18446744073709551616 = lo / T := by
    rw [← hPT, Int.mul_comm P T]
    exact Int.mul_ediv_mul_of_pos_left _ _ (by omega)
  rw [e2] at e1
  grind
theorem dv_quo (n y P : Int) (hP : 1 ≤ P) : n * P / (y * P) = n / y := Int.mul_ediv_mul_of_pos_left _ _ (by omega)
theorem dv_rem (n y P : Int) (hP : 1 ≤ P) : n * P - n / y * (y * P) = n % y * P := by
  have e1 := Int.emod_add_mul_ediv n y
  grind
/-- The test of a digit that is tried. -/
theorem kn_test {q rh u21 u0 y1 y0 : Int} (h : q * y1 + rh = u21) : q * y0 > 4294967296 * rh + u0 ↔ u21 * 4294967296 + u0 < q * (y1 * 4294967296 + y0) := by
  have e : q * (y1 * 4294967296 + y0) = q * y1 * 4294967296 + q * y0 := by grind
  rw [e]
  generalize q * y1 = a at *
  generalize q * y0 = b at *
  omega
theorem kn_more {q rh u21 u0 y1 y0 : Int} (hy : 0 < y1 * 4294967296 + y0) (h : q * y1 + rh = u21) (k : 4294967296 * rh + u0 < q * y0) : (u21 * 4294967296 + u0) / (y1 * 4294967296 + y0) ≤ q - 1 := by
  have := (kn_test (u0 := u0) (y0 := y0) h).1 k
  have := Int.ediv_lt_of_lt_mul hy this
  omega
theorem kn_done {q rh u21 u0 y1 y0 : Int} (hy : 0 < y1 * 4294967296 + y0) (h : q * y1 + rh = u21) (k : ¬ 4294967296 * rh + u0 < q * y0) (hq : (u21 * 4294967296 + u0) / (y1 * 4294967296 + y0) ≤ q) : q = (u21 * 4294967296 + u0) / (y1 * 4294967296 + y0) := by
  have h1 : ¬ u21 * 4294967296 + u0 < q * (y1 * 4294967296 + y0) := fun h2 => k ((kn_test (u0 := u0) (y0 := y0) h).2 h2)
  have := Int.le_ediv_of_mul_le hy (Int.not_lt.1 h1)
  omega
theorem rem_wrap (a u b : Int) (h : 0 ≤ a + u - b) (h' : a + u - b < 18446744073709551616) : IntKind.u64.wrap (IntKind.u64.wrap (IntKind.u64.wrap a + u) - IntKind.u64.wrap b) = a + u - b := by
  simp only [IntKind.wrap_u64]
  omega
theorem and32 (x : Int) (h0 : 0 ≤ x) (h1 : x < 18446744073709551616) : bits BinOp.and IntKind.u64 x 4294967295 = x % 4294967296 := by
  obtain ⟨n, rfl⟩ := Int.eq_ofNat_of_zero_le h0
  have h := bits_and_u64_nat n 4294967295 (by omega) (by decide)
  rw [show (4294967295 : Nat) = 2 ^ 32 - 1 from rfl, Nat.and_two_pow_sub_one_eq_mod] at h
  exact h.trans (by omega)
theorem or_sum (a b P : Nat) (s : Nat) (hP : P = 2 ^ s) (hb : b < P) (h : a * P + b < 18446744073709551616) : bits BinOp.or IntKind.u64 ((a * P : Nat) : Int) (b : Int) = ((a * P + b : Nat) : Int) := by
  rw [bits_or_u64_nat _ _ (by omega) (by omega)]
  subst hP
  rw [Nat.mul_comm a, ← Nat.two_pow_add_eq_or_of_lt hb]
set_option maxHeartbeats 4000000 in
theorem bits_Div64_q (hi lo y : Int) (h0 : 1 ≤ hi) (h1 : 0 ≤ lo) (h2 : lo ≤ 18446744073709551615) (h3 : 1 ≤ y) (h4 : y ≤ 9223372036854775807) (hq : (hi * 18446744073709551616 + lo) / y ≤ 2147483647) (w : World) :
    Calls Tryz.prog 113 #[.int .u64 hi, .int .u64 lo, .int .u64 y] w fun e w' => e = .returned (.tuple #[.int .u64 ((hi * 18446744073709551616 + lo) / y), .int .u64 ((hi * 18446744073709551616 + lo) % y)]) ∧ Below w.heap.size w w' := by
  have hN : hi * 18446744073709551616 + lo < 2147483648 * y := by
    have e1 := Int.emod_add_mul_ediv (hi * 18446744073709551616 + lo) y
    have e2 := Int.emod_lt_of_pos (hi * 18446744073709551616 + lo) (show 0 < y by omega)
    have e3 := Int.mul_le_mul_of_nonneg_left hq (show 0 ≤ y by omega)
    omega
  have hhy : hi < y := by omega
  obtain ⟨s, t, hs, s1, s2, st, p1, p2⟩ := lz_shift y h3 h4
  have KL := hide (fun W => hs ▸ bits_LeadingZeros64 y (by omega) (by omega) W)
  have hy0 : (y == 0) = false := beq_eq_false_iff_ne.2 (by omega)
  have hh0 : (hi == 0) = false := beq_eq_false_iff_ne.2 (by omega)
  have hle : ¬ y ≤ hi := by omega
  have hmin : min s 64 = s := by omega
  have hmint : min t 64 = t := by omega
  have hts : (64 : Int) - (s : Int) = (t : Int) := by omega
  -- the powers
  have hP1 : (1 : Int) ≤ 2 ^ s := by have := Int.pow_pos (n := 2) (m := s) (by decide); omega
  have hT1 : (1 : Int) ≤ 2 ^ t := by have := Int.pow_pos (n := 2) (m := t) (by decide); omega
  have hPT : (2 : Int) ^ s * 2 ^ t = 18446744073709551616 := by rw [← Int.pow_add, st]; rfl
  have hNorm := dv_norm hi lo (2 ^ s) (2 ^ t) hP1 hT1 hPT
  have hQuo := dv_quo (hi * 18446744073709551616 + lo) y (2 ^ s) hP1
  have hRem := dv_rem (hi * 18446744073709551616 + lo) y (2 ^ s) hP1
  have hUb : (hi * 18446744073709551616 + lo) * 2 ^ s < 2147483648 * (y * 2 ^ s) := by
    have := (Int.mul_lt_mul_right (show (0 : Int) < 2 ^ s by omega)).2 hN
    rw [Int.mul_assoc] at this
    exact this
  have hr0 := Int.emod_nonneg (hi * 18446744073709551616 + lo) (b := y) (by omega)
  have hr1 := Int.emod_lt_of_pos (hi * 18446744073709551616 + lo) (b := y) (by omega)
  have hd0 : 0 ≤ lo / 2 ^ t := Int.ediv_nonneg h1 (by omega)
  have hd1 : lo / 2 ^ t < 2 ^ s := Int.ediv_lt_of_lt_mul (by omega) (by rw [hPT]; omega)
  have hhP : 0 ≤ hi * 2 ^ s := Int.mul_nonneg (by omega) (by omega)
  have hor : bits BinOp.or IntKind.u64 (hi * 2 ^ s) (lo / 2 ^ t) = hi * 2 ^ s + lo / 2 ^ t := by
    obtain ⟨a, rfl⟩ := Int.eq_ofNat_of_zero_le (show 0 ≤ hi by omega)
    obtain ⟨b, hb⟩ := Int.eq_ofNat_of_zero_le hd0
    have e2 : ((a * 2 ^ s : Nat) : Int) = (a : Int) * 2 ^ s := by rw [Int.natCast_mul, Int.natCast_pow]; rfl
    have e3 : ((2 ^ s : Nat) : Int) = (2 : Int) ^ s := by rw [Int.natCast_pow]; rfl
    rw [hb] at hd1 hNorm ⊢
    have hle1 : (a : Int) * 2 ^ s + (b : Int) < 18446744073709551616 := by
      have k0 := Int.emod_nonneg (lo * 2 ^ s) (b := 18446744073709551616) (by decide)
      omega
    rw [← e2] at hle1 ⊢
    have := or_sum a b (2 ^ s) s rfl (by omega) (by omega)
    rw [this]
    omega
  -- names
  obtain ⟨yn, hyn⟩ : ∃ v, v = y * 2 ^ s := ⟨_, rfl⟩
  obtain ⟨u32, hu32⟩ : ∃ v, v = hi * 2 ^ s + lo / 2 ^ t := ⟨_, rfl⟩
  obtain ⟨u10, hu10⟩ : ∃ v, v = lo * 2 ^ s % 18446744073709551616 := ⟨_, rfl⟩
  obtain ⟨Q, hQ⟩ : ∃ v, v = (hi * 18446744073709551616 + lo) / y := ⟨_, rfl⟩
  obtain ⟨R, hR⟩ : ∃ v, v = (hi * 18446744073709551616 + lo) % y := ⟨_, rfl⟩
  rw [← hQ] at hq hQuo hRem ⊢
  rw [← hR] at hRem hr0 hr1 ⊢
  rw [← hyn] at p1 p2 hQuo hRem hUb
  rw [← hu32] at hNorm hor
  rw [← hu10] at hNorm
  rw [hNorm] at hQuo hRem hUb
  obtain ⟨hp, hhp⟩ : ∃ v, v = hi * 2 ^ s := ⟨_, rfl⟩
  have hpb : 0 ≤ hp ∧ hp < 18446744073709551616 := by
    have k0 := Int.emod_nonneg (lo * 2 ^ s) (b := 18446744073709551616) (by decide)
    omega
  have whp : IntKind.u64.wrap (hi * 2 ^ s) = hp := by rw [IntKind.wrap_u64, hhp]; omega
  rw [← hhp] at hor
  have hw10 : IntKind.u64.wrap (lo * 2 ^ s) = u10 := by rw [IntKind.wrap_u64, hu10]
  have hb10 : 0 ≤ u10 ∧ u10 < 18446744073709551616 := by omega
  obtain ⟨y1, hy1⟩ : ∃ v, v = yn / 4294967296 := ⟨_, rfl⟩
  obtain ⟨y0, hy0'⟩ : ∃ v, v = yn % 4294967296 := ⟨_, rfl⟩
  obtain ⟨u1, hu1⟩ : ∃ v, v = u10 / 4294967296 := ⟨_, rfl⟩
  obtain ⟨u0, hu0⟩ : ∃ v, v = u10 % 4294967296 := ⟨_, rfl⟩
  have ay := and32 yn (by omega) p2
  have au := and32 u10 hb10.1 hb10.2
  rw [← hy0'] at ay
  rw [← hu0] at au
  have hu32b : 0 ≤ u32 ∧ u32 < 2147483648 := by omega
  have hy1b : 2147483648 ≤ y1 ∧ y1 ≤ 4294967295 := by omega
  have hy0b : 0 ≤ y0 ∧ y0 ≤ 4294967295 := by omega
  have hu1b : 0 ≤ u1 ∧ u1 ≤ 4294967295 := by omega
  have hu0b : 0 ≤ u0 ∧ u0 ≤ 4294967295 := by omega
  have hyd : yn = y1 * 4294967296 + y0 := by omega
  have hud : u10 = u1 * 4294967296 + u0 := by omega
  obtain ⟨u21, hu21⟩ : ∃ v, v = u32 * 4294967296 + u1 := ⟨_, rfl⟩
  have hUU : u32 * 18446744073709551616 + u10 = u21 * 4294967296 + u0 := by omega
  rw [hUU] at hQuo hRem
  have hu21b : 0 ≤ u21 ∧ u21 ≤ 9223372036854775807 := by omega
  have hq1 : u32 / y1 = 0 := Int.ediv_eq_zero_of_lt hu32b.1 (by omega)
  have hy1z : (y1 == 0) = false := beq_eq_false_iff_ne.2 (by omega)
  obtain ⟨q0, hq0⟩ : ∃ v, v = u21 / y1 := ⟨_, rfl⟩
  have e0 := Int.emod_add_mul_ediv u21 y1
  have e1 := Int.emod_nonneg u21 (b := y1) (by omega)
  have e2 := Int.emod_lt_of_pos u21 (show 0 < y1 by omega)
  rw [← hq0] at e0
  have hq0b : 0 ≤ q0 ∧ q0 ≤ 4294967295 := by
    rw [hq0]
    refine ⟨Int.ediv_nonneg hu21b.1 (by omega), ?_⟩
    have : u21 / y1 < 4294967296 := Int.ediv_lt_of_lt_mul (by omega) (by omega)
    omega
  obtain ⟨rh0, hrh0⟩ : ∃ v, v = u21 % y1 := ⟨_, rfl⟩
  rw [← hrh0] at e0 e1 e2
  obtain ⟨qy, hqy⟩ : ∃ v, v = q0 * y1 := ⟨_, rfl⟩
  have hqy2 : y1 * q0 = qy := by rw [hqy]; exact Int.mul_comm _ _
  rw [hqy2] at e0
  have hqyb : 0 ≤ qy ∧ qy ≤ u21 := by have := Int.mul_nonneg hq0b.1 (show 0 ≤ y1 by omega); omega
  have hsub : u21 - qy = rh0 := by omega
  have hstart := hide (show q0 * y1 + rh0 = u21 by omega)
  have hynp : 0 < y1 * 4294967296 + y0 := by omega
  rw [hyd] at hQuo
  have hQle := hide (show Q ≤ q0 by
    rw [← hQuo, hq0]
    -- the first try is at least the digit
    have a1 : (u21 * 4294967296 + u0) / (y1 * 4294967296 + y0) ≤ (u21 * 4294967296 + u0) / (y1 * 4294967296) := by
      apply Int.le_ediv_of_mul_le (by omega)
      have b1 := Int.ediv_mul_le (u21 * 4294967296 + u0) (b := y1 * 4294967296 + y0) (by omega)
      have b0 : 0 ≤ (u21 * 4294967296 + u0) / (y1 * 4294967296 + y0) := Int.ediv_nonneg (by omega) (by omega)
      have b2 := Int.mul_le_mul_of_nonneg_left (show y1 * 4294967296 ≤ y1 * 4294967296 + y0 by omega) b0
      omega
    have a2 : (u21 * 4294967296 + u0) / (y1 * 4294967296) = u21 / y1 := by
      rw [Int.mul_comm y1, ← Int.ediv_ediv_of_nonneg (by decide)]
      congr 1
      omega
    omega)
  have hfr : 0 ≤ R * 2 ^ s := Int.mul_nonneg hr0 (by omega)
  have hfr2 : R * 2 ^ s < 18446744073709551616 := by
    have := Int.mul_le_mul_of_nonneg_right (show R ≤ y by omega) (show (0 : Int) ≤ 2 ^ s by omega)
    omega
  have hend : IntKind.u64.wrap (IntKind.u64.wrap (IntKind.u64.wrap (u21 * 4294967296) + u0) - IntKind.u64.wrap (Q * yn)) = R * 2 ^ s := by
    rw [rem_wrap _ _ _ (by omega) (by omega)]
    exact hRem
  have hdv : R * 2 ^ s / 2 ^ s = R := Int.mul_ediv_cancel _ (by omega)
  have hdv2 : (R * 2 ^ s).fdiv (2 ^ s) = R := by rw [Int.fdiv_eq_ediv_of_nonneg _ (by omega)]; exact hdv
  have Hmore := hide (fun (q rh : Int) (h : q * y1 + rh = u21) (k : 4294967296 * rh + u0 < q * y0) => hQuo ▸ kn_more hynp h k)
  have Hdone := hide (fun (q rh : Int) (h : q * y1 + rh = u21) (k : ¬ 4294967296 * rh + u0 < q * y0) (k2 : Q ≤ q) => hQuo ▸ kn_done hynp h k (hQuo.symm ▸ k2))
  have Hend := hide hend
  have Hbs := hide (And.intro hu0b (And.intro hy0b hy1b))
  obtain ⟨k1, k2⟩ := hu32b
  obtain ⟨k3, k4⟩ := hy1b
  obtain ⟨k5, k6⟩ := hy0b
  obtain ⟨k7, k8⟩ := hu1b
  obtain ⟨k9, k10⟩ := hu0b
  obtain ⟨k11, k12⟩ := hu21b
  obtain ⟨k13, k14⟩ := hq0b
  obtain ⟨k15, k16⟩ := hqyb
  have ey := hyn.symm
  have e32 := hu32.symm
  have e21 := hu21.symm
  have ey1 := hy1.symm
  have eu1 := hu1.symm
  have eq0 := hq0.symm
  have eqy := hqy.symm
  clear hNorm hQuo hRem hUb hN hq hd0 hd1 hPT hyd hud hUU e0 hrh0 hqy2 hQ hR hy0' hu0 hu10 hyn hhp hpb hb10 hu32 hu21 hy1 hu1 hq0 hqy e32 hend hr0 hr1
  go_enter Tryz.func113, Tryz.ntmps113
  go_upto_region 17 with (go_at_call 125; (with_reducible refine (KL.out _).mono ?_); rintro e w9 ⟨rfl, rfl⟩)
  have nf : ¬ 4294967296 * u32 + u1 < 0 := by omega
  go_loop [15, 16] (fun a b => a = .int .u64 (u32 / y1) ∧ b = .int .u64 u32) (fun _ _ => 0)
  case atStart => exact ⟨rfl, rfl⟩
  case round =>
    obtain ⟨rfl, rfl⟩ := hrel
    go_wp2
    go_loop [18, 16] (fun a b => ∃ q rh : Int, a = .int .u64 q ∧ b = .int .u64 rh ∧ 0 ≤ q ∧ q ≤ 4294967295 ∧ 0 ≤ rh ∧ rh ≤ 4294967295 ∧ Hid (q * y1 + rh = u21) ∧ Hid (Q ≤ q)) (fun a _ => (intOf a).toNat)
    case atStart => exact ⟨q0, rh0, by simp [*], by simp [*], k13, k14, e1, by omega, hstart, hQle⟩
    case round =>
      obtain ⟨q, rh, rfl, rfl, b1, b2', b3, b4', HI, HQ⟩ := hrel
      obtain ⟨c1, c2⟩ := nn_bd 4294967295 4294967295 18446744065119617025 b1 b2' k5 k6 (by decide)
      clear hstart hQle
      by_cases k : 4294967296 * rh + u0 < q * y0
      · have hq' := Hmore.out q rh HI.out k
        have hqp : 1 ≤ q := by
          rcases Int.lt_or_le q 1 with h | h
          · have : q = 0 := by omega
            subst this
            rw [Int.zero_mul] at k; omega
          · exact h
        by_cases k20 : 4294967296 ≤ rh + y1
        · have he : q - 1 = Q := by
            obtain ⟨d1, d2⟩ := nn_bd 4294967295 4294967295 18446744065119617025 (show 0 ≤ q - 1 by omega) (by omega) k5 k6 (by decide)
            refine Hdone.out (q - 1) (rh + y1) ?_ (by omega) hq'
            have := HI.out
            rw [Int.sub_mul]; omega
          have hend := Hend.out
          clear HI HQ Hmore Hdone hq' Hend
          go_wp2
          go_ret2
          exact ⟨by simp [*], bwz⟩
        · have HI2 := hide (show (q - 1) * y1 + (rh + y1) = u21 by have := HI.out; rw [Int.sub_mul]; omega)
          have HQ2 := hide hq'
          clear HI HQ hq'
          go_wp2
          go_round
          case rel => exact ⟨q - 1, rh + y1, rfl, rfl, by omega, by omega, by omega, by omega, HI2, HQ2⟩
          case measure => simp [intOf]; omega
      · have he := Hdone.out q rh HI.out (by omega) HQ.out
        subst he
        have hend := Hend.out
        clear HI HQ Hmore Hdone Hend
        go_wp2
        go_ret2
        exact ⟨by simp [*], bwz⟩
end Go.Proofs.YtiokigjnacmilaaGreatDoor
