/- Walks of the functions on numbers: quotients rounded down, roots. -/
import Derived.Test.YtgcdgdnmcdffoaaDoorA
import Derived.Test.YtgcdgdnmcdffoaaDoorPl
import Derived.Laws.Externs
import Derived.Laws.FloatArith
namespace Go.Proofs.YtgcdgdnmcdffoaaDoor
open Go.RowKit

theorem impl_floorDiv (a b : Int) (h1 : -9000000000000000000 ≤ a) (h2 : a ≤ 9000000000000000000) (hb : 1 ≤ b) (w : World) :
 Calls Tryd.prog 85 #[.int .i64 a, .int .i64 b] w fun e w' => e = .returned (.int .i64 (a / b)) ∧ w = w' := by
 have hq := tdiv_bd (a := a) (b := b) (c := 9000000000000000000) (by omega) h1 h2
 obtain ⟨hq1, hq2⟩ := hq
 have hb0 : (b == 0) = false := by simp; omega
 have hb1 : (b == -1) = false := by simp; omega
 rcases Int.lt_or_le (a.tmod b) 0 with hr | hr
 ·have hf := hide (tdiv_neg' (by omega) hr)
  by_cases ha : 0 ≤ a
  ·exact absurd (Int.tmod_nonneg b ha) (by omega)
  go_enter Tryd.func85, Tryd.ntmps85
  go_wp2
  go_ret
  exact ⟨ret_i hf.out, rfl⟩
 ·have hf := hide (tdiv_nonneg' (by omega) hr)
  by_cases ha : 0 ≤ a
  ·have h3 : a.tdiv b = a / b := Int.tdiv_eq_ediv_of_nonneg ha
   have h4 : a.tmod b = a % b := Int.tmod_eq_emod_of_nonneg ha
   have h5 := Int.emod_nonneg a (b := b) (by omega)
   rw [h3] at hq1 hq2
   clear h3 h4 hr hf
   go_enter Tryd.func85, Tryd.ntmps85
   go_wp2
   go_ret
   exact ⟨rfl, rfl⟩
  ·go_enter Tryd.func85, Tryd.ntmps85
   go_wp2
   go_ret
   exact ⟨ret_i hf.out, rfl⟩
theorem spec_l01Floor (a b : Int) (h1 : -9000000000000000000 ≤ a) (h2 : a ≤ 9000000000000000000) (hb : 1 ≤ b) (w : World) :
 Calls Tryd.prog 45 #[.int .i64 a, .int .i64 b] w fun e w' => e = .returned (.int .i64 (a / b)) ∧ w = w' := by
 have hq := tdiv_bd (a := a) (b := b) (c := 9000000000000000000) (by omega) h1 h2
 obtain ⟨hq1, hq2⟩ := hq
 have hb0 : (b == 0) = false := by simp; omega
 have hb1 : (b == -1) = false := by simp; omega
 rcases Int.lt_or_le (a.tmod b) 0 with hr | hr
 ·have hf := hide (tdiv_neg' (by omega) hr)
  by_cases ha : 0 ≤ a
  ·exact absurd (Int.tmod_nonneg b ha) (by omega)
  go_enter Tryd.func45, Tryd.ntmps45
  go_wp2
  go_ret
  exact ⟨ret_i hf.out, rfl⟩
 ·have hf := hide (tdiv_nonneg' (by omega) hr)
  by_cases ha : 0 ≤ a
  ·have h3 : a.tdiv b = a / b := Int.tdiv_eq_ediv_of_nonneg ha
   have h4 : a.tmod b = a % b := Int.tmod_eq_emod_of_nonneg ha
   have h5 := Int.emod_nonneg a (b := b) (by omega)
   rw [h3] at hq1 hq2
   clear h3 h4 hr hf
   go_enter Tryd.func45, Tryd.ntmps45
   go_wp2
   go_ret
   exact ⟨rfl, rfl⟩
  ·go_enter Tryd.func45, Tryd.ntmps45
   go_wp2
   go_ret
   exact ⟨ret_i hf.out, rfl⟩
set_option maxHeartbeats 1000000 in
theorem spec_l01Root (n : Int) (h0 : 0 ≤ n) (h1 : n ≤ 1000000000000000000) (w : World) :
 Calls Tryd.prog 43 #[.int .i64 n] w fun e w' => e = .returned (.int .i64 (rt n)) ∧ w = w' := by
 go_enter Tryd.func43, Tryd.ntmps43
 go_wp2
 go_loop [3, 4] (fun a b => ∃ l h : Int, 0 ≤ l ∧ l < h ∧ h ≤ 1000000001 ∧ l * l ≤ n ∧ n < h * h ∧ a = .int .i64 l ∧ b = .int .i64 h) (fun a b => (intOf b - intOf a).toNat)
 case atStart => exact ⟨0, 1000000001, by omega, by omega, by omega, by omega, by omega, rfl, rfl⟩
 case round =>
  obtain ⟨l, h, hl0, hlh, hh, hl, hn, rfl, rfl⟩ := hrel
  by_cases hc : l + 1 < h
  ·have hm1 : l < (l + h) / 2 := by omega
   have hm2 : (l + h) / 2 < h := by omega
   have q1 := sq_le (a := (l + h) / 2) (b := 1000000001) (by omega) (by omega)
   have q0 : 0 ≤ (l + h) / 2 * ((l + h) / 2) := Int.mul_nonneg (by omega) (by omega)
   by_cases hq : (l + h) / 2 * ((l + h) / 2) ≤ n
   ·go_wp2
    go_round
    case rel => exact ⟨(l + h) / 2, h, by omega, by omega, by omega, hq, hn, rfl, rfl⟩
    case measure => simp [intOf]; omega
   ·go_wp2
    go_round
    case rel => exact ⟨l, (l + h) / 2, by omega, by omega, by omega, hl, by omega, rfl, rfl⟩
    case measure => simp [intOf]; omega
  ·have hf := hide (rt_eq hl0 hl (by have : h = l + 1 := by omega
                                     rw [← this]; exact hn))
   go_wp2
   go_ret
   exact ⟨ret_i hf.out, rfl⟩
end Go.Proofs.YtgcdgdnmcdffoaaDoor
