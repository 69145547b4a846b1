/- Walks of the functions on numbers: quotients rounded down, roots. -/
import Derived.Test.YtnmnibpcklcmgaaDoorA
import Derived.Test.YtnmnibpcklcmgaaDoorPl
import Derived.Test.YtnmnibpcklcmgaaDoorFl
import Derived.Laws.Externs
import Derived.Laws.FloatArith
namespace Go.Proofs.YtnmnibpcklcmgaaDoor
open Go.RowKit

set_option maxHeartbeats 1000000 in
theorem spec_l01Root (n : Int) (h0 : 0 ≤ n) (h1 : n ≤ 1000000000000000000) (w : World) :
    Calls Tryd.prog 89 #[.int .i64 n] w fun e w' => e = .returned (.int .i64 (rt n)) ∧ w = w' := by
  go_enter Tryd.func89, Tryd.ntmps89
  go_wp2
  go_loop [3, 4] (fun a b => ∃ l h : Int, 0 ≤ l ∧ l < h ∧ h ≤ 1000000001 ∧ l * l ≤ n ∧ n < h * h ∧ a = .int .i64 l ∧ b = .int .i64 h) (fun a b => (intOf b - intOf a).toNat)
  case atStart => exact ⟨0, 1000000001, by omega, by omega, by omega, by omega, by omega, rfl, rfl⟩
  case round =>
    obtain ⟨l, h, hl0, hlh, hh, hl, hn, rfl, rfl⟩ := hrel
    by_cases hc : l + 1 < h
    · have hm1 : l < (l + h) / 2 := by omega
      have hm2 : (l + h) / 2 < h := by omega
      have q1 := sq_le (a := (l + h) / 2) (b := 1000000001) (by omega) (by omega)
      have q0 : 0 ≤ (l + h) / 2 * ((l + h) / 2) := Int.mul_nonneg (by omega) (by omega)
      by_cases hq : (l + h) / 2 * ((l + h) / 2) ≤ n
      · go_wp2
        go_round
        case rel => exact ⟨(l + h) / 2, h, by omega, by omega, by omega, hq, hn, rfl, rfl⟩
        case measure => simp [intOf]; omega
      · go_wp2
        go_round
        case rel => exact ⟨l, (l + h) / 2, by omega, by omega, by omega, hl, by omega, rfl, rfl⟩
        case measure => simp [intOf]; omega
    · have hf := hide (rt_eq hl0 hl (by have : h = l + 1 := by omega
                                        rw [← this]; exact hn))
      go_wp2
      go_ret
      exact ⟨ret_i hf.out, rfl⟩
end Go.Proofs.YtnmnibpcklcmgaaDoor
