/- Walks of the small functions: numbers, points, winds, headings, hulls. -/
import Derived.Test.YtgcdgdnmcdffoaaDoorRows
import Derived.Test.YtgcdgdnmcdffoaaDoorBase
import Derived.Outline
import Derived.StillTactics
import Derived.Laws.Pointers
import Derived.Deep.RegionHeld3
namespace Go.Proofs.YtgcdgdnmcdffoaaDoor
open Go.RowKit

theorem impl_within (n lo hi : Int) (w : World) :
 Calls Tryd.prog 48 #[.int .i64 n, .int .i64 lo, .int .i64 hi] w fun e w' => e = .returned (.bool (inB n lo hi)) ∧ w = w' := by
 go_enter Tryd.func48, Tryd.ntmps48
 go_wp2
 all_goals (go_ret; exact ⟨by simp [inB]; omega, rfl⟩)
theorem spec_l01In (n lo hi : Int) (w : World) :
 Calls Tryd.prog 30 #[.int .i64 n, .int .i64 lo, .int .i64 hi] w fun e w' => e = .returned (.bool (inB n lo hi)) ∧ w = w' := by
 go_enter Tryd.func30, Tryd.ntmps30
 go_wp2
 all_goals (go_ret; exact ⟨by simp [inB]; omega, rfl⟩)
theorem impl_IsPoint (x y : Int) (w : World) :
 Calls Tryd.prog 61 #[.agg #[.int .i64 x, .int .i64 y]] w fun e w' => e = .returned (.bool (isPt x y)) ∧ Below w.heap.size w w' := by
 go_enter Tryd.func61, Tryd.ntmps61
 go_wp2_with (go_at_call 48; (with_reducible refine (impl_within _ _ _ _).mono ?_); rintro e w9 ⟨rfl, rfl⟩)
 all_goals (go_ret; exact ⟨by simp_all [isPt], bwz⟩)
theorem spec_IsPoint (x y : Int) (w : World) :
 Calls Tryd.prog 46 #[.agg #[.int .i64 x, .int .i64 y]] w fun e w' => e = .returned (.bool (isPt x y)) ∧ Below w.heap.size w w' := by
 go_enter Tryd.func46, Tryd.ntmps46
 go_wp2_with (go_at_call 30; (with_reducible refine (spec_l01In _ _ _ _).mono ?_); rintro e w9 ⟨rfl, rfl⟩)
 all_goals (go_ret; exact ⟨by simp_all [isPt], bwz⟩)
theorem spec_l01Cross (x y u v : Int) (h1 : Bd (x * v)) (h2 : Bd (y * u)) (w : World) :
 Calls Tryd.prog 76 #[.agg #[.int .i64 x, .int .i64 y], .agg #[.int .i64 u, .int .i64 v]] w fun e w' => e = .returned (.int .i64 (x * v - y * u)) ∧ Below w.heap.size w w' := by
 obtain ⟨a1, a2⟩ := h1
 obtain ⟨b1, b2⟩ := h2
 go_enter Tryd.func76, Tryd.ntmps76
 go_wp2
 go_ret
 exact ⟨rfl, bwz⟩
theorem spec_l01Dot (x y u v : Int) (h1 : Bd (x * u)) (h2 : Bd (y * v)) (w : World) :
 Calls Tryd.prog 44 #[.agg #[.int .i64 x, .int .i64 y], .agg #[.int .i64 u, .int .i64 v]] w fun e w' => e = .returned (.int .i64 (x * u + y * v)) ∧ Below w.heap.size w w' := by
 obtain ⟨a1, a2⟩ := h1
 obtain ⟨b1, b2⟩ := h2
 go_enter Tryd.func44, Tryd.ntmps44
 go_wp2
 go_ret
 exact ⟨rfl, bwz⟩
theorem spec_l01Abs (n : Int) (h1 : -9000000000000000000 ≤ n) (h2 : n ≤ 9000000000000000000) (w : World) :
 Calls Tryd.prog 75 #[.int .i64 n] w fun e w' => e = .returned (.int .i64 (absI n)) ∧ w = w' := by
 go_enter Tryd.func75, Tryd.ntmps75
 go_wp2
 all_goals (go_ret; exact ⟨ret_i (by unfold absI; split <;> omega), rfl⟩)
end Go.Proofs.YtgcdgdnmcdffoaaDoor
