/- Walks of the small functions: numbers, points, winds, headings, hulls. -/
import Derived.Test.YtndlpoffpcpnkaaRows
import Derived.Test.YtndlpoffpcpnkaaBase
import Derived.Outline
import Derived.StillTactics
import Derived.Laws.Pointers
import Derived.Deep.RegionHeld3
namespace Go.Proofs.Ytndlpoffpcpnkaa
open Go.RowKit

theorem impl_within (n lo hi : Int) (w : World) :
    Calls Try.prog 39 #[.int .i64 n, .int .i64 lo, .int .i64 hi] w fun e w' => e = .returned (.bool (inB n lo hi)) ∧ w = w' := by
  go_enter Try.func39, Try.ntmps39
  go_wp2
  all_goals (go_ret; exact ⟨by simp [inB]; omega, rfl⟩)
theorem spec_l01In (n lo hi : Int) (w : World) :
    Calls Try.prog 51 #[.int .i64 n, .int .i64 lo, .int .i64 hi] w fun e w' => e = .returned (.bool (inB n lo hi)) ∧ w = w' := by
  go_enter Try.func51, Try.ntmps51
  go_wp2
  all_goals (go_ret; exact ⟨by simp [inB]; omega, rfl⟩)
theorem impl_IsPoint (x y : Int) (w : World) :
    Calls Try.prog 61 #[.agg #[.int .i64 x, .int .i64 y]] w fun e w' => e = .returned (.bool (isPt x y)) ∧ Below w.heap.size w w' := by
  go_enter Try.func61, Try.ntmps61
  go_wp2_with (go_at_call 39; (with_reducible refine (impl_within _ _ _ _).mono ?_); rintro e w9 ⟨rfl, rfl⟩)
  all_goals (go_ret; exact ⟨by simp_all [isPt], bwz⟩)
theorem spec_IsPoint (x y : Int) (w : World) :
    Calls Try.prog 70 #[.agg #[.int .i64 x, .int .i64 y]] w fun e w' => e = .returned (.bool (isPt x y)) ∧ Below w.heap.size w w' := by
  go_enter Try.func70, Try.ntmps70
  go_wp2_with (go_at_call 51; (with_reducible refine (spec_l01In _ _ _ _).mono ?_); rintro e w9 ⟨rfl, rfl⟩)
  all_goals (go_ret; exact ⟨by simp_all [isPt], bwz⟩)
theorem impl_IsWind (x y : Int) (w : World) :
    Calls Try.prog 22 #[.agg #[.int .i64 x, .int .i64 y]] w fun e w' => e = .returned (.bool (isWd x y)) ∧ Below w.heap.size w w' := by
  go_enter Try.func22, Try.ntmps22
  go_wp2_with (go_at_call 39; (with_reducible refine (impl_within _ _ _ _).mono ?_); rintro e w9 ⟨rfl, rfl⟩)
  all_goals (go_ret; exact ⟨by simp_all [isWd], bwz⟩)
theorem spec_IsWind (x y : Int) (w : World) :
    Calls Try.prog 48 #[.agg #[.int .i64 x, .int .i64 y]] w fun e w' => e = .returned (.bool (isWd x y)) ∧ Below w.heap.size w w' := by
  go_enter Try.func48, Try.ntmps48
  go_wp2_with (go_at_call 51; (with_reducible refine (spec_l01In _ _ _ _).mono ?_); rintro e w9 ⟨rfl, rfl⟩)
  all_goals (go_ret; exact ⟨by simp_all [isWd], bwz⟩)
theorem impl_isHeading (x y : Int) (w : World) :
    Calls Try.prog 65 #[.agg #[.int .i64 x, .int .i64 y]] w fun e w' => e = .returned (.bool (isHd x y)) ∧ Below w.heap.size w w' := by
  go_enter Try.func65, Try.ntmps65
  go_wp2_with (go_at_call 39; (with_reducible refine (impl_within _ _ _ _).mono ?_); rintro e w9 ⟨rfl, rfl⟩)
  all_goals (go_ret; exact ⟨by simp_all [isHd], bwz⟩)
theorem impl_IsHull (bx bY hx hy l : Int) (w : World) :
    Calls Try.prog 42 #[.agg #[.int .i64 bx, .int .i64 bY, .int .i64 hx, .int .i64 hy, .int .i64 l]] w fun e w' => e = .returned (.bool (isHu bx bY hx hy l)) ∧ Below w.heap.size w w' := by
  go_enter Try.func42, Try.ntmps42
  go_wp2_with (first | (go_at_call 61; (with_reducible refine (impl_IsPoint _ _ _).mono ?_); rintro e w9 ⟨rfl, hb⟩; have q1 : w9.cell? ⟨w.heap.size, 0, none⟩ = some (.int .i64 bx) := cell_later hb (by go_simp); have q2 : w9.cell? ⟨w.heap.size, 1, none⟩ = some (.int .i64 bY) := cell_later hb (by go_simp); have q3 : w9.cell? ⟨w.heap.size, 2, none⟩ = some (.int .i64 hx) := cell_later hb (by go_simp); have q4 : w9.cell? ⟨w.heap.size, 3, none⟩ = some (.int .i64 hy) := cell_later hb (by go_simp); have q5 : w9.cell? ⟨w.heap.size, 4, none⟩ = some (.int .i64 l) := cell_later hb (by go_simp)) | (go_at_call 65; (with_reducible refine (impl_isHeading _ _ _).mono ?_); rintro e w9 ⟨rfl, hb⟩; have q1 : w9.cell? ⟨w.heap.size, 0, none⟩ = some (.int .i64 bx) := cell_later hb (by go_simp); have q2 : w9.cell? ⟨w.heap.size, 1, none⟩ = some (.int .i64 bY) := cell_later hb (by go_simp); have q3 : w9.cell? ⟨w.heap.size, 2, none⟩ = some (.int .i64 hx) := cell_later hb (by go_simp); have q4 : w9.cell? ⟨w.heap.size, 3, none⟩ = some (.int .i64 hy) := cell_later hb (by go_simp); have q5 : w9.cell? ⟨w.heap.size, 4, none⟩ = some (.int .i64 l) := cell_later hb (by go_simp)) | (go_at_call 39; (with_reducible refine (impl_within _ _ _ _).mono ?_); rintro e w9 ⟨rfl, rfl⟩))
  all_goals (go_ret; exact ⟨by simp_all [isHu], bwz⟩)
theorem impl_areHulls (bx bY hx hy l cx cy ix iy m : Int) (w : World) :
    Calls Try.prog 23 #[.agg #[.int .i64 bx, .int .i64 bY, .int .i64 hx, .int .i64 hy, .int .i64 l], .agg #[.int .i64 cx, .int .i64 cy, .int .i64 ix, .int .i64 iy, .int .i64 m]] w fun e w' => e = .returned (.bool (isHu bx bY hx hy l && isHu cx cy ix iy m)) ∧ Below w.heap.size w w' := by
  go_enter Try.func23, Try.ntmps23
  go_wp2_with (go_at_call 42; (with_reducible refine (impl_IsHull _ _ _ _ _ _).mono ?_); rintro e w9 ⟨rfl, hb⟩; have q1 : w9.cell? ⟨w.heap.size, 0, none⟩ = some (.int .i64 bx) := cell_later hb (by go_simp); have q2 : w9.cell? ⟨w.heap.size, 1, none⟩ = some (.int .i64 bY) := cell_later hb (by go_simp); have q3 : w9.cell? ⟨w.heap.size, 2, none⟩ = some (.int .i64 hx) := cell_later hb (by go_simp); have q4 : w9.cell? ⟨w.heap.size, 3, none⟩ = some (.int .i64 hy) := cell_later hb (by go_simp); have q5 : w9.cell? ⟨w.heap.size, 4, none⟩ = some (.int .i64 l) := cell_later hb (by go_simp); have q6 : w9.cell? ⟨w.heap.size + 1, 0, none⟩ = some (.int .i64 cx) := cell_later hb (by go_simp); have q7 : w9.cell? ⟨w.heap.size + 1, 1, none⟩ = some (.int .i64 cy) := cell_later hb (by go_simp); have q8 : w9.cell? ⟨w.heap.size + 1, 2, none⟩ = some (.int .i64 ix) := cell_later hb (by go_simp); have q9 : w9.cell? ⟨w.heap.size + 1, 3, none⟩ = some (.int .i64 iy) := cell_later hb (by go_simp); have q10 : w9.cell? ⟨w.heap.size + 1, 4, none⟩ = some (.int .i64 m) := cell_later hb (by go_simp))
  all_goals (go_ret; exact ⟨by simp_all, bwz⟩)
theorem spec_l08Vector (x y : Int) (w : World) :
    Calls Try.prog 57 #[.agg #[.int .i64 x, .int .i64 y]] w fun e w' => e = .returned (.agg #[.int .i64 x, .int .i64 y]) ∧ Below w.heap.size w w' := by
  go_enter Try.func57, Try.ntmps57
  go_wp2
  simp [bodyPost, results, Try.results57, go_sem, *]
  exact bwz
theorem spec_l01Cross (x y u v : Int) (h1 : Bd (x * v)) (h2 : Bd (y * u)) (w : World) :
    Calls Try.prog 56 #[.agg #[.int .i64 x, .int .i64 y], .agg #[.int .i64 u, .int .i64 v]] w fun e w' => e = .returned (.int .i64 (x * v - y * u)) ∧ Below w.heap.size w w' := by
  obtain ⟨a1, a2⟩ := h1
  obtain ⟨b1, b2⟩ := h2
  go_enter Try.func56, Try.ntmps56
  go_wp2
  go_ret
  exact ⟨rfl, bwz⟩
theorem spec_l01Dot (x y u v : Int) (h1 : Bd (x * u)) (h2 : Bd (y * v)) (w : World) :
    Calls Try.prog 59 #[.agg #[.int .i64 x, .int .i64 y], .agg #[.int .i64 u, .int .i64 v]] w fun e w' => e = .returned (.int .i64 (x * u + y * v)) ∧ Below w.heap.size w w' := by
  obtain ⟨a1, a2⟩ := h1
  obtain ⟨b1, b2⟩ := h2
  go_enter Try.func59, Try.ntmps59
  go_wp2
  go_ret
  exact ⟨rfl, bwz⟩
theorem impl_scalar (wx wy x y : Int) (h1 : Bd (x * wx)) (h2 : Bd (y * wy)) (w : World) :
    Calls Try.prog 47 #[.agg #[.int .i64 wx, .int .i64 wy], .agg #[.int .i64 x, .int .i64 y]] w fun e w' => e = .returned (.int .i64 (x * wx + y * wy)) ∧ Below w.heap.size w w' := by
  obtain ⟨a1, a2⟩ := h1
  obtain ⟨b1, b2⟩ := h2
  go_enter Try.func47, Try.ntmps47
  go_wp2
  go_ret
  exact ⟨rfl, bwz⟩
theorem spec_l01Sign (n : Int) (w : World) :
    Calls Try.prog 55 #[.int .i64 n] w fun e w' => e = .returned (.int .i64 (sgn n)) ∧ w = w' := by
  go_enter Try.func55, Try.ntmps55
  go_wp2
  all_goals (go_ret; exact ⟨by simp [sgn]; omega, rfl⟩)
theorem spec_l01Abs (n : Int) (h1 : -9000000000000000000 ≤ n) (h2 : n ≤ 9000000000000000000) (w : World) :
    Calls Try.prog 73 #[.int .i64 n] w fun e w' => e = .returned (.int .i64 (absI n)) ∧ w = w' := by
  go_enter Try.func73, Try.ntmps73
  go_wp2
  all_goals (go_ret; exact ⟨ret_i (by unfold absI; split <;> omega), rfl⟩)
theorem tackI_sgn (wx wy x y : Int) : tackI wx wy x y = if (sgn (x * wy - y * wx) == -1) = true then 1 else if (sgn (x * wy - y * wx) == 1) = true then 2 else 0 := by
  unfold tackI sgn; split <;> split <;> simp_all <;> omega
theorem spec_l08Tack (wx wy x y : Int) (h1 : Bd (x * wy)) (h2 : Bd (y * wx)) (w : World) :
    Calls Try.prog 34 #[.agg #[.int .i64 wx, .int .i64 wy], .agg #[.int .i64 x, .int .i64 y]] w fun e w' => e = .returned (.int .i64 (tackI wx wy x y)) ∧ Below w.heap.size w w' := by
  go_enter Try.func34, Try.ntmps34
  go_wp2
  go_region_held3 (fun W => W.cell? ⟨w.heap.size, 0, none⟩ = some (.int .i64 wx) ∧ W.cell? ⟨w.heap.size, 1, none⟩ = some (.int .i64 wy) ∧ W.cell? ⟨w.heap.size + 1, 0, none⟩ = some (.int .i64 x) ∧ W.cell? ⟨w.heap.size + 1, 1, none⟩ = some (.int .i64 y) ∧ Below w.heap.size w W ∧ w.heap.size + 2 ≤ W.heap.size)
    (first | (obtain ⟨k1, k2, k3, k4, kB, kz⟩ := ‹_ ∧ _›; exact ⟨cell_later hb k1, cell_later hb k2, cell_later hb k3, cell_later hb k4, bstep kB hb, bsize kz hb⟩) | (obtain ⟨k1, k2, k3, k4, kB, kz⟩ := ‹_ ∧ _›; exact ⟨k1, k2, k3, k4, kB, kz⟩) | (exact ⟨(by go_simp; done), (by go_simp; done), (by go_simp; done), (by go_simp; done), bwz, (by first | (simp; done) | (simp; omega) | omega)⟩))
     (first | (go_at_call 57; (with_reducible refine (spec_l08Vector _ _ _).mono ?_); rintro e w9 ⟨rfl, hb⟩; have hzz := hb.size; (try simp at hzz)) | (go_at_call 56; (with_reducible refine (spec_l01Cross _ _ _ _ h1 h2 _).mono ?_); rintro e w9 ⟨rfl, hb⟩; have hzz := hb.size; (try simp at hzz)) | (go_at_call 55; (with_reducible refine (spec_l01Sign _ _).mono ?_); rintro e w9 ⟨rfl, rfl⟩))
  obtain ⟨k1, k2, k3, k4, kB, kz⟩ := ‹_ ∧ _›
  go_wp2
  all_goals (go_ret; exact ⟨ret_i (by rw [tackI_sgn]; simp [*]), kB⟩)
theorem impl_tackOf (wx wy x y : Int) (h1 : Bd (x * wy)) (h2 : Bd (y * wx)) (w : World) :
    Calls Try.prog 28 #[.agg #[.int .i64 wx, .int .i64 wy], .agg #[.int .i64 x, .int .i64 y]] w fun e w' => e = .returned (.int .i64 (tackI wx wy x y)) ∧ Below w.heap.size w w' := by
  obtain ⟨a1, a2⟩ := h1
  obtain ⟨b1, b2⟩ := h2
  go_enter Try.func28, Try.ntmps28
  go_wp2
  all_goals (go_ret; exact ⟨ret_i (by unfold tackI; (repeat' split) <;> omega), bwz⟩)
end Go.Proofs.Ytndlpoffpcpnkaa
