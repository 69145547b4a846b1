/- Walks of the functions on numbers: quotients rounded down, roots. -/
import Derived.Test.YtklbbopdmnopgaaGreatDoorA
import Derived.Test.YtklbbopdmnopgaaGreatDoorPl
import Derived.Laws.Externs
import Derived.Laws.FloatArith
namespace Go.Proofs.YtklbbopdmnopgaaGreatDoor
open Go.RowKit

theorem impl_floorDiv (a b : Int) (h1 : -9000000000000000000 ≤ a) (h2 : a ≤ 9000000000000000000) (hb : 1 ≤ b) (w : World) :
 Calls Tryz.prog 39 #[.int .i64 a, .int .i64 b] w fun e w' => e = .returned (.int .i64 (a / b)) ∧ w = w' := by
 have hq := tdiv_bd (a := a) (b := b) (c := 9000000000000000000) (by omega) h1 h2
 obtain ⟨hq1, hq2⟩ := hq
 have hb0 : (b == 0) = false := by simp; omega
 have hb1 : (b == -1) = false := by simp; omega
 rcases Int.lt_or_le (a.tmod b) 0 with hr | hr
 ·have hf := hide (tdiv_neg' (by omega) hr)
  by_cases ha : 0 ≤ a
  ·exact absurd (Int.tmod_nonneg b ha) (by omega)
  go_enter Tryz.func39, Tryz.ntmps39
  go_wp2
  go_ret
  exact ⟨ret_i hf.out, rfl⟩
 ·have hf := hide (tdiv_nonneg' (by omega) hr)
  by_cases ha : 0 ≤ a
  ·have h3 : a.tdiv b = a / b := Int.tdiv_eq_ediv_of_nonneg ha
   have h4 : a.tmod b = a % b := Int.tmod_eq_emod_of_nonneg ha
   have h5 := Int.emod_nonneg a (b := b) (by omega)
   rw [h3] at hq1 hq2
   clear h3 h4 hr hf
   go_enter Tryz.func39, Tryz.ntmps39
   go_wp2
   go_ret
   exact ⟨rfl, rfl⟩
  ·go_enter Tryz.func39, Tryz.ntmps39
   go_wp2
   go_ret
   exact ⟨ret_i hf.out, rfl⟩
theorem spec_l01Floor (a b : Int) (h1 : -9000000000000000000 ≤ a) (h2 : a ≤ 9000000000000000000) (hb : 1 ≤ b) (w : World) :
 Calls Tryz.prog 53 #[.int .i64 a, .int .i64 b] w fun e w' => e = .returned (.int .i64 (a / b)) ∧ w = w' := by
 have hq := tdiv_bd (a := a) (b := b) (c := 9000000000000000000) (by omega) h1 h2
 obtain ⟨hq1, hq2⟩ := hq
 have hb0 : (b == 0) = false := by simp; omega
 have hb1 : (b == -1) = false := by simp; omega
 rcases Int.lt_or_le (a.tmod b) 0 with hr | hr
 ·have hf := hide (tdiv_neg' (by omega) hr)
  by_cases ha : 0 ≤ a
  ·exact absurd (Int.tmod_nonneg b ha) (by omega)
  go_enter Tryz.func53, Tryz.ntmps53
  go_wp2
  go_ret
  exact ⟨ret_i hf.out, rfl⟩
 ·have hf := hide (tdiv_nonneg' (by omega) hr)
  by_cases ha : 0 ≤ a
  ·have h3 : a.tdiv b = a / b := Int.tdiv_eq_ediv_of_nonneg ha
   have h4 : a.tmod b = a % b := Int.tmod_eq_emod_of_nonneg ha
   have h5 := Int.emod_nonneg a (b := b) (by omega)
   rw [h3] at hq1 hq2
   clear h3 h4 hr hf
   go_enter Tryz.func53, Tryz.ntmps53
   go_wp2
   go_ret
   exact ⟨rfl, rfl⟩
  ·go_enter Tryz.func53, Tryz.ntmps53
   go_wp2
   go_ret
   exact ⟨ret_i hf.out, rfl⟩
theorem sqrt_val (n : Int) (h0 : 0 ≤ n) (h1 : n ≤ 9223372036854775807) : ∃ (y : Nat) (k : Int), (∀ W : World, (callFunc 67 #[.float .f64 (floatOfInt .f64 n)]).run Tryz.prog W = .ok (.value (.float .f64 y)) W) ∧
 (∀ W : World, (convert 81 2 (.float .f64 y)).run Tryz.prog W = .ok (.int .i64 k) W) ∧ 0 ≤ k ∧ k ≤ 9007199254740992 := by
 obtain ⟨m, rfl⟩ := Int.eq_ofNat_of_zero_le h0
 obtain ⟨y, k, h2, h3, h4⟩ := sqrt_word m (by omega)
 refine ⟨y, k, fun W => ?_, fun W => ?_, by omega, by omega⟩
 ·rw [run_callFunc_extern Tryz.func67 (by kernel_rfl) (by kernel_rfl) (by kernel_rfl) (e := Extern.MathSqrt.sqrt) (by kernel_rfl)]
  have e1 : floatOfInt .f64 (m : Int) = Ieee.double.nearest false m 0 := by
   have hd : decide ((m : Int) < 0) = false := by simp
   show Ieee.double.nearest (decide ((m : Int) < 0)) (m : Int).natAbs 0 = _
   rw [hd]; rfl
  have e2 : (Extern.MathSqrt.sqrt #[.float .f64 (floatOfInt .f64 (m : Int))]).run Tryz.prog W = .ok (.float .f64 y) W := by
   rw [e1]
   have e4 : ∀ x : Nat, Extern.MathSqrt.sqrt #[.float .f64 x] = (match Ieee.double.sqrt x with | some r => pure (.float .f64 r) | none => do pure (.float .f64 (← choose (.nanBits .f64 x x)))) := fun _ => rfl
   rw [e4, h2]; rfl
  rw [e2]
  rfl
 ·refine run_convert_float_int (P := Tryz.prog) (w := W) 81 2 .f64 .i64 y k (by rw [Tryz.underlying81]; rfl) Tryz.underlying2 ?_
  unfold floatToIntVal
  have e3 : (FloatKind.f64.decode y).toInt .zero = some (k : Int) := h3
  rw [e3]
  simp [IntKind.min, IntKind.max, IntKind.signed, IntKind.bits]
  omega
theorem math_Sqrt (x y : Nat) (hs : ∀ W : World, (callFunc 67 #[.float .f64 x]).run Tryz.prog W = .ok (.value (.float .f64 y)) W) (w : World) :
 Calls Tryz.prog 47 #[.float .f64 x] w fun e w' => e = .returned (.float .f64 y) ∧ w = w' := by
 go_enter Tryz.func47, Tryz.ntmps47
 go_wp2
 go_ret
 exact ⟨rfl, rfl⟩
theorem sq_bd {r : Int} (h0 : 0 ≤ r) (h1 : r ≤ 3037000499) : 0 ≤ r * r ∧ r * r ≤ 9223372030926249001 := by
 have h2 := sq_le h0 h1
 have h3 := Int.mul_nonneg h0 h0
 omega
set_option maxHeartbeats 1000000 in
theorem impl_rootOf (n : Int) (h0 : 0 ≤ n) (h1 : n ≤ 9223372036854775807) (w : World) :
 Calls Tryz.prog 25 #[.int .i64 n] w fun e w' => e = .returned (.int .i64 (rt n)) ∧ w = w' := by
 obtain ⟨y, k, hs, hc, hk0, hk1⟩ := sqrt_val n h0 h1
 have Hs := hide hs
 clear hs
 go_enter Tryz.func25, Tryz.ntmps25
 go_wp2_with (go_at_call 47; (with_reducible refine (math_Sqrt _ y Hs.out _).mono ?_); rintro e w9 ⟨rfl, rfl⟩)
 go_loop [3] (fun t => ∃ r : Int, 0 ≤ r ∧ r ≤ 9007199254740992 ∧ t = .int .i64 r) (fun t => (intOf t).toNat)
 case atStart => exact ⟨k, hk0, hk1, rfl⟩
 case round =>
  obtain ⟨r, hr0, hr1, rfl⟩ := hrel
  by_cases hb : 3037000499 < r
  ·go_wp2
   go_round
   case rel => exact ⟨r - 1, by omega, by omega, rfl⟩
   case measure => simp [intOf]; omega
  ·obtain ⟨q0, q1⟩ := sq_bd hr0 (by omega)
   by_cases hq : n < r * r
   ·have hr2 : r ≠ 0 := by rintro rfl; omega
    go_wp2
    go_round
    case rel => exact ⟨r - 1, by omega, by omega, rfl⟩
    case measure => simp [intOf]; omega
   ·go_wp2
    go_loop [3] (fun t => ∃ r : Int, 0 ≤ r ∧ r ≤ 3037000499 ∧ r * r ≤ n ∧ t = .int .i64 r) (fun t => (3037000499 - intOf t).toNat)
    case atStart => exact ⟨r, hr0, by omega, by omega, rfl⟩
    case round =>
     clear hq q0 q1 hb hr0 hr1
     obtain ⟨s, hs0, hs1, hs2, rfl⟩ := hrel
     by_cases hb : s < 3037000499
     ·obtain ⟨q0, q1⟩ := sq_bd (r := s + 1) (by omega) (by omega)
      by_cases hq : (s + 1) * (s + 1) ≤ n
      ·go_wp2
       go_round
       case rel => exact ⟨s + 1, by omega, by omega, hq, rfl⟩
       case measure => simp [intOf]; omega
      ·have hf := hide (rt_eq hs0 hs2 (by omega))
       go_wp2
       go_ret
       exact ⟨ret_i hf.out, rfl⟩
     ·have hf := hide (rt_eq hs0 hs2 (by have : s = 3037000499 := by omega
                                         rw [this]; omega))
      go_wp2
      go_ret
      exact ⟨ret_i hf.out, rfl⟩
set_option maxHeartbeats 1000000 in
theorem spec_l01Root (n : Int) (h0 : 0 ≤ n) (h1 : n ≤ 1000000000000000000) (w : World) :
 Calls Tryz.prog 56 #[.int .i64 n] w fun e w' => e = .returned (.int .i64 (rt n)) ∧ w = w' := by
 go_enter Tryz.func56, Tryz.ntmps56
 go_wp2
 go_loop [3, 4] (fun a b => ∃ l h : Int, 0 ≤ l ∧ l < h ∧ h ≤ 1000000001 ∧ l * l ≤ n ∧ n < h * h ∧ a = .int .i64 l ∧ b = .int .i64 h) (fun a b => (intOf b - intOf a).toNat)
 case atStart => exact ⟨0, 1000000001, by omega, by omega, by omega, by omega, by omega, rfl, rfl⟩
 case round =>
  obtain ⟨l, h, hl0, hlh, hh, hl, hn, rfl, rfl⟩ := hrel
  by_cases hc : l + 1 < h
  ·have hm1 : l < (l + h) / 2 := by omega
   have hm2 : (l + h) / 2 < h := by omega
   have q1 := sq_le (a := (l + h) / 2) (b := 1000000001) (by omega) (by omega)
   have q0 : 0 ≤ (l + h) / 2 * ((l + h) / 2) := Int.mul_nonneg (by omega) (by omega)
   by_cases hq : (l + h) / 2 * ((l + h) / 2) ≤ n
   ·go_wp2
    go_round
    case rel => exact ⟨(l + h) / 2, h, by omega, by omega, by omega, hq, hn, rfl, rfl⟩
    case measure => simp [intOf]; omega
   ·go_wp2
    go_round
    case rel => exact ⟨l, (l + h) / 2, by omega, by omega, by omega, hl, by omega, rfl, rfl⟩
    case measure => simp [intOf]; omega
  ·have hf := hide (rt_eq hl0 hl (by have : h = l + 1 := by omega
                                     rw [← this]; exact hn))
   go_wp2
   go_ret
   exact ⟨ret_i hf.out, rfl⟩
end Go.Proofs.YtklbbopdmnopgaaGreatDoor
