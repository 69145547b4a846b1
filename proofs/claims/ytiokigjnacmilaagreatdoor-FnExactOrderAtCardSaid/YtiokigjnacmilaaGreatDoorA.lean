/- Walks of the small functions: numbers, points, winds, headings, hulls. -/
import Derived.Test.YtiokigjnacmilaaGreatDoorRows
import Derived.Test.YtiokigjnacmilaaGreatDoorBase
import Derived.Outline
import Derived.StillTactics
import Derived.Laws.Pointers
import Derived.Deep.RegionHeld3
namespace Go.Proofs.YtiokigjnacmilaaGreatDoor
open Go.RowKit

theorem impl_within (n lo hi : Int) (w : World) :
    Calls Tryz.prog 75 #[.int .i64 n, .int .i64 lo, .int .i64 hi] w fun e w' => e = .returned (.bool (inB n lo hi)) ∧ w = w' := by
  go_enter Tryz.func75, Tryz.ntmps75
  go_wp2
  all_goals (go_ret; exact ⟨by simp [inB]; omega, rfl⟩)
theorem spec_l01In (n lo hi : Int) (w : World) :
    Calls Tryz.prog 44 #[.int .i64 n, .int .i64 lo, .int .i64 hi] w fun e w' => e = .returned (.bool (inB n lo hi)) ∧ w = w' := by
  go_enter Tryz.func44, Tryz.ntmps44
  go_wp2
  all_goals (go_ret; exact ⟨by simp [inB]; omega, rfl⟩)
theorem impl_IsPoint (x y : Int) (w : World) :
    Calls Tryz.prog 54 #[.agg #[.int .i64 x, .int .i64 y]] w fun e w' => e = .returned (.bool (isPt x y)) ∧ Below w.heap.size w w' := by
  go_enter Tryz.func54, Tryz.ntmps54
  go_wp2_with (go_at_call 75; (with_reducible refine (impl_within _ _ _ _).mono ?_); rintro e w9 ⟨rfl, rfl⟩)
  all_goals (go_ret; exact ⟨by simp_all [isPt], bwz⟩)
theorem spec_IsPoint (x y : Int) (w : World) :
    Calls Tryz.prog 45 #[.agg #[.int .i64 x, .int .i64 y]] w fun e w' => e = .returned (.bool (isPt x y)) ∧ Below w.heap.size w w' := by
  go_enter Tryz.func45, Tryz.ntmps45
  go_wp2_with (go_at_call 44; (with_reducible refine (spec_l01In _ _ _ _).mono ?_); rintro e w9 ⟨rfl, rfl⟩)
  all_goals (go_ret; exact ⟨by simp_all [isPt], bwz⟩)
theorem laws_toPoint (x y : Int) (w : World) :
    Calls Tryz.prog 50 #[.agg #[.int .i64 x, .int .i64 y]] w fun e w' => e = .returned (.agg #[.int .i64 x, .int .i64 y]) ∧ Below w.heap.size w w' := by
  go_enter Tryz.func50, Tryz.ntmps50
  go_wp2
  simp [bodyPost, results, Tryz.results50, go_sem, *]
  exact bwz
theorem spec_l01Cross (x y u v : Int) (h1 : Bd (x * v)) (h2 : Bd (y * u)) (w : World) :
    Calls Tryz.prog 102 #[.agg #[.int .i64 x, .int .i64 y], .agg #[.int .i64 u, .int .i64 v]] w fun e w' => e = .returned (.int .i64 (x * v - y * u)) ∧ Below w.heap.size w w' := by
  obtain ⟨a1, a2⟩ := h1
  obtain ⟨b1, b2⟩ := h2
  go_enter Tryz.func102, Tryz.ntmps102
  go_wp2
  go_ret
  exact ⟨rfl, bwz⟩
theorem spec_l01Dot (x y u v : Int) (h1 : Bd (x * u)) (h2 : Bd (y * v)) (w : World) :
    Calls Tryz.prog 71 #[.agg #[.int .i64 x, .int .i64 y], .agg #[.int .i64 u, .int .i64 v]] w fun e w' => e = .returned (.int .i64 (x * u + y * v)) ∧ Below w.heap.size w w' := by
  obtain ⟨a1, a2⟩ := h1
  obtain ⟨b1, b2⟩ := h2
  go_enter Tryz.func71, Tryz.ntmps71
  go_wp2
  go_ret
  exact ⟨rfl, bwz⟩
theorem spec_l01Sign (n : Int) (w : World) :
    Calls Tryz.prog 103 #[.int .i64 n] w fun e w' => e = .returned (.int .i64 (sgn n)) ∧ w = w' := by
  go_enter Tryz.func103, Tryz.ntmps103
  go_wp2
  all_goals (go_ret; exact ⟨by simp [sgn]; omega, rfl⟩)
theorem spec_l01Abs (n : Int) (h1 : -9000000000000000000 ≤ n) (h2 : n ≤ 9000000000000000000) (w : World) :
    Calls Tryz.prog 117 #[.int .i64 n] w fun e w' => e = .returned (.int .i64 (absI n)) ∧ w = w' := by
  go_enter Tryz.func117, Tryz.ntmps117
  go_wp2
  all_goals (go_ret; exact ⟨ret_i (by unfold absI; split <;> omega), rfl⟩)
end Go.Proofs.YtiokigjnacmilaaGreatDoor
