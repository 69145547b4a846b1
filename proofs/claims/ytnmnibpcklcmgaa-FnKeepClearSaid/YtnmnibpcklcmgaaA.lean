/- Walks of the small functions: numbers, points, winds, headings, hulls. -/
import Derived.Test.YtnmnibpcklcmgaaRows
import Derived.Test.YtnmnibpcklcmgaaBase
import Derived.Outline
import Derived.StillTactics
import Derived.Laws.Pointers
import Derived.Deep.RegionHeld3
namespace Go.Proofs.Ytnmnibpcklcmgaa
open Go.RowKit

theorem impl_within (n lo hi : Int) (w : World) :
    Calls Try.prog 40 #[.int .i64 n, .int .i64 lo, .int .i64 hi] w fun e w' => e = .returned (.bool (inB n lo hi)) ∧ w = w' := by
  go_enter Try.func40, Try.ntmps40
  go_wp2
  all_goals (go_ret; exact ⟨by simp [inB]; omega, rfl⟩)
theorem spec_l01In (n lo hi : Int) (w : World) :
    Calls Try.prog 43 #[.int .i64 n, .int .i64 lo, .int .i64 hi] w fun e w' => e = .returned (.bool (inB n lo hi)) ∧ w = w' := by
  go_enter Try.func43, Try.ntmps43
  go_wp2
  all_goals (go_ret; exact ⟨by simp [inB]; omega, rfl⟩)
theorem impl_IsPoint (x y : Int) (w : World) :
    Calls Try.prog 60 #[.agg #[.int .i64 x, .int .i64 y]] w fun e w' => e = .returned (.bool (isPt x y)) ∧ Below w.heap.size w w' := by
  go_enter Try.func60, Try.ntmps60
  go_wp2_with (go_at_call 40; (with_reducible refine (impl_within _ _ _ _).mono ?_); rintro e w9 ⟨rfl, rfl⟩)
  all_goals (go_ret; exact ⟨by simp_all [isPt], (by repeat (first | with_reducible exact Below.refl _ _ | with_reducible assumption | with_reducible refine Below.drew ?_ | with_reducible refine below_drewN ?_ _ | with_reducible refine Below.setCell ?_ (by first | exact Nat.le_refl _ | (simp; done) | (simp; omega) | (dsimp only; omega)) _ | with_reducible refine Below.alloc ?_ (by first | exact Nat.le_refl _ | (simp; done) | (simp; omega) | (simp at *; omega)) _ | with_reducible refine bstep ?_ (by assumption)))⟩)
theorem spec_IsPoint (x y : Int) (w : World) :
    Calls Try.prog 66 #[.agg #[.int .i64 x, .int .i64 y]] w fun e w' => e = .returned (.bool (isPt x y)) ∧ Below w.heap.size w w' := by
  go_enter Try.func66, Try.ntmps66
  go_wp2_with (go_at_call 43; (with_reducible refine (spec_l01In _ _ _ _).mono ?_); rintro e w9 ⟨rfl, rfl⟩)
  all_goals (go_ret; exact ⟨by simp_all [isPt], (by repeat (first | with_reducible exact Below.refl _ _ | with_reducible assumption | with_reducible refine Below.drew ?_ | with_reducible refine below_drewN ?_ _ | with_reducible refine Below.setCell ?_ (by first | exact Nat.le_refl _ | (simp; done) | (simp; omega) | (dsimp only; omega)) _ | with_reducible refine Below.alloc ?_ (by first | exact Nat.le_refl _ | (simp; done) | (simp; omega) | (simp at *; omega)) _ | with_reducible refine bstep ?_ (by assumption)))⟩)
theorem impl_IsWind (x y : Int) (w : World) :
    Calls Try.prog 29 #[.agg #[.int .i64 x, .int .i64 y]] w fun e w' => e = .returned (.bool (isWd x y)) ∧ Below w.heap.size w w' := by
  go_enter Try.func29, Try.ntmps29
  go_wp2_with (go_at_call 40; (with_reducible refine (impl_within _ _ _ _).mono ?_); rintro e w9 ⟨rfl, rfl⟩)
  all_goals (go_ret; exact ⟨by simp_all [isWd], (by repeat (first | with_reducible exact Below.refl _ _ | with_reducible assumption | with_reducible refine Below.drew ?_ | with_reducible refine below_drewN ?_ _ | with_reducible refine Below.setCell ?_ (by first | exact Nat.le_refl _ | (simp; done) | (simp; omega) | (dsimp only; omega)) _ | with_reducible refine Below.alloc ?_ (by first | exact Nat.le_refl _ | (simp; done) | (simp; omega) | (simp at *; omega)) _ | with_reducible refine bstep ?_ (by assumption)))⟩)
theorem spec_IsWind (x y : Int) (w : World) :
    Calls Try.prog 32 #[.agg #[.int .i64 x, .int .i64 y]] w fun e w' => e = .returned (.bool (isWd x y)) ∧ Below w.heap.size w w' := by
  go_enter Try.func32, Try.ntmps32
  go_wp2_with (go_at_call 43; (with_reducible refine (spec_l01In _ _ _ _).mono ?_); rintro e w9 ⟨rfl, rfl⟩)
  all_goals (go_ret; exact ⟨by simp_all [isWd], (by repeat (first | with_reducible exact Below.refl _ _ | with_reducible assumption | with_reducible refine Below.drew ?_ | with_reducible refine below_drewN ?_ _ | with_reducible refine Below.setCell ?_ (by first | exact Nat.le_refl _ | (simp; done) | (simp; omega) | (dsimp only; omega)) _ | with_reducible refine Below.alloc ?_ (by first | exact Nat.le_refl _ | (simp; done) | (simp; omega) | (simp at *; omega)) _ | with_reducible refine bstep ?_ (by assumption)))⟩)
theorem impl_isHeading (x y : Int) (w : World) :
    Calls Try.prog 81 #[.agg #[.int .i64 x, .int .i64 y]] w fun e w' => e = .returned (.bool (isHd x y)) ∧ Below w.heap.size w w' := by
  go_enter Try.func81, Try.ntmps81
  go_wp2_with (go_at_call 40; (with_reducible refine (impl_within _ _ _ _).mono ?_); rintro e w9 ⟨rfl, rfl⟩)
  all_goals (go_ret; exact ⟨by simp_all [isHd], (by repeat (first | with_reducible exact Below.refl _ _ | with_reducible assumption | with_reducible refine Below.drew ?_ | with_reducible refine below_drewN ?_ _ | with_reducible refine Below.setCell ?_ (by first | exact Nat.le_refl _ | (simp; done) | (simp; omega) | (dsimp only; omega)) _ | with_reducible refine Below.alloc ?_ (by first | exact Nat.le_refl _ | (simp; done) | (simp; omega) | (simp at *; omega)) _ | with_reducible refine bstep ?_ (by assumption)))⟩)
theorem spec_l08Heading (x y : Int) (w : World) :
    Calls Try.prog 80 #[.agg #[.int .i64 x, .int .i64 y]] w fun e w' => e = .returned (.bool (isHd x y)) ∧ Below w.heap.size w w' := by
  go_enter Try.func80, Try.ntmps80
  go_wp2_with (go_at_call 43; (with_reducible refine (spec_l01In _ _ _ _).mono ?_); rintro e w9 ⟨rfl, rfl⟩)
  all_goals (go_ret; exact ⟨by simp_all [isHd], (by repeat (first | with_reducible exact Below.refl _ _ | with_reducible assumption | with_reducible refine Below.drew ?_ | with_reducible refine below_drewN ?_ _ | with_reducible refine Below.setCell ?_ (by first | exact Nat.le_refl _ | (simp; done) | (simp; omega) | (dsimp only; omega)) _ | with_reducible refine Below.alloc ?_ (by first | exact Nat.le_refl _ | (simp; done) | (simp; omega) | (simp at *; omega)) _ | with_reducible refine bstep ?_ (by assumption)))⟩)
theorem impl_IsHull (bx bY hx hy l : Int) (w : World) :
    Calls Try.prog 55 #[.agg #[.int .i64 bx, .int .i64 bY, .int .i64 hx, .int .i64 hy, .int .i64 l]] w fun e w' => e = .returned (.bool (isHu bx bY hx hy l)) ∧ Below w.heap.size w w' := by
  go_enter Try.func55, Try.ntmps55
  go_wp2_with (first | (go_at_call 60; (with_reducible refine (impl_IsPoint _ _ _).mono ?_); rintro e w9 ⟨rfl, hb⟩; have q1 : w9.cell? ⟨w.heap.size, 0, none⟩ = some (.int .i64 bx) := cell_later hb (by go_simp); have q2 : w9.cell? ⟨w.heap.size, 1, none⟩ = some (.int .i64 bY) := cell_later hb (by go_simp); have q3 : w9.cell? ⟨w.heap.size, 2, none⟩ = some (.int .i64 hx) := cell_later hb (by go_simp); have q4 : w9.cell? ⟨w.heap.size, 3, none⟩ = some (.int .i64 hy) := cell_later hb (by go_simp); have q5 : w9.cell? ⟨w.heap.size, 4, none⟩ = some (.int .i64 l) := cell_later hb (by go_simp)) | (go_at_call 81; (with_reducible refine (impl_isHeading _ _ _).mono ?_); rintro e w9 ⟨rfl, hb⟩; have q1 : w9.cell? ⟨w.heap.size, 0, none⟩ = some (.int .i64 bx) := cell_later hb (by go_simp); have q2 : w9.cell? ⟨w.heap.size, 1, none⟩ = some (.int .i64 bY) := cell_later hb (by go_simp); have q3 : w9.cell? ⟨w.heap.size, 2, none⟩ = some (.int .i64 hx) := cell_later hb (by go_simp); have q4 : w9.cell? ⟨w.heap.size, 3, none⟩ = some (.int .i64 hy) := cell_later hb (by go_simp); have q5 : w9.cell? ⟨w.heap.size, 4, none⟩ = some (.int .i64 l) := cell_later hb (by go_simp)) | (go_at_call 40; (with_reducible refine (impl_within _ _ _ _).mono ?_); rintro e w9 ⟨rfl, rfl⟩))
  all_goals (go_ret; exact ⟨by simp_all [isHu], (by repeat (first | with_reducible exact Below.refl _ _ | with_reducible assumption | with_reducible refine Below.drew ?_ | with_reducible refine below_drewN ?_ _ | with_reducible refine Below.setCell ?_ (by first | exact Nat.le_refl _ | (simp; done) | (simp; omega) | (dsimp only; omega)) _ | with_reducible refine Below.alloc ?_ (by first | exact Nat.le_refl _ | (simp; done) | (simp; omega) | (simp at *; omega)) _ | with_reducible refine bstep ?_ (by assumption)))⟩)
theorem spec_IsHull (bx bY hx hy l : Int) (w : World) :
    Calls Try.prog 54 #[.agg #[.int .i64 bx, .int .i64 bY, .int .i64 hx, .int .i64 hy, .int .i64 l]] w fun e w' => e = .returned (.bool (isHu bx bY hx hy l)) ∧ Below w.heap.size w w' := by
  go_enter Try.func54, Try.ntmps54
  go_wp2_with (first | (go_at_call 66; (with_reducible refine (spec_IsPoint _ _ _).mono ?_); rintro e w9 ⟨rfl, hb⟩; have q1 : w9.cell? ⟨w.heap.size, 0, none⟩ = some (.int .i64 bx) := cell_later hb (by go_simp); have q2 : w9.cell? ⟨w.heap.size, 1, none⟩ = some (.int .i64 bY) := cell_later hb (by go_simp); have q3 : w9.cell? ⟨w.heap.size, 2, none⟩ = some (.int .i64 hx) := cell_later hb (by go_simp); have q4 : w9.cell? ⟨w.heap.size, 3, none⟩ = some (.int .i64 hy) := cell_later hb (by go_simp); have q5 : w9.cell? ⟨w.heap.size, 4, none⟩ = some (.int .i64 l) := cell_later hb (by go_simp)) | (go_at_call 80; (with_reducible refine (spec_l08Heading _ _ _).mono ?_); rintro e w9 ⟨rfl, hb⟩; have q1 : w9.cell? ⟨w.heap.size, 0, none⟩ = some (.int .i64 bx) := cell_later hb (by go_simp); have q2 : w9.cell? ⟨w.heap.size, 1, none⟩ = some (.int .i64 bY) := cell_later hb (by go_simp); have q3 : w9.cell? ⟨w.heap.size, 2, none⟩ = some (.int .i64 hx) := cell_later hb (by go_simp); have q4 : w9.cell? ⟨w.heap.size, 3, none⟩ = some (.int .i64 hy) := cell_later hb (by go_simp); have q5 : w9.cell? ⟨w.heap.size, 4, none⟩ = some (.int .i64 l) := cell_later hb (by go_simp)) | (go_at_call 43; (with_reducible refine (spec_l01In _ _ _ _).mono ?_); rintro e w9 ⟨rfl, rfl⟩))
  all_goals (go_ret; exact ⟨by simp_all [isHu], (by repeat (first | with_reducible exact Below.refl _ _ | with_reducible assumption | with_reducible refine Below.drew ?_ | with_reducible refine below_drewN ?_ _ | with_reducible refine Below.setCell ?_ (by first | exact Nat.le_refl _ | (simp; done) | (simp; omega) | (dsimp only; omega)) _ | with_reducible refine Below.alloc ?_ (by first | exact Nat.le_refl _ | (simp; done) | (simp; omega) | (simp at *; omega)) _ | with_reducible refine bstep ?_ (by assumption)))⟩)
theorem impl_areHulls (bx bY hx hy l cx cy ix iy m : Int) (w : World) :
    Calls Try.prog 50 #[.agg #[.int .i64 bx, .int .i64 bY, .int .i64 hx, .int .i64 hy, .int .i64 l], .agg #[.int .i64 cx, .int .i64 cy, .int .i64 ix, .int .i64 iy, .int .i64 m]] w fun e w' => e = .returned (.bool (isHu bx bY hx hy l && isHu cx cy ix iy m)) ∧ Below w.heap.size w w' := by
  go_enter Try.func50, Try.ntmps50
  go_wp2_with (go_at_call 55; (with_reducible refine (impl_IsHull _ _ _ _ _ _).mono ?_); rintro e w9 ⟨rfl, hb⟩; have q1 : w9.cell? ⟨w.heap.size, 0, none⟩ = some (.int .i64 bx) := cell_later hb (by go_simp); have q2 : w9.cell? ⟨w.heap.size, 1, none⟩ = some (.int .i64 bY) := cell_later hb (by go_simp); have q3 : w9.cell? ⟨w.heap.size, 2, none⟩ = some (.int .i64 hx) := cell_later hb (by go_simp); have q4 : w9.cell? ⟨w.heap.size, 3, none⟩ = some (.int .i64 hy) := cell_later hb (by go_simp); have q5 : w9.cell? ⟨w.heap.size, 4, none⟩ = some (.int .i64 l) := cell_later hb (by go_simp); have q6 : w9.cell? ⟨w.heap.size + 1, 0, none⟩ = some (.int .i64 cx) := cell_later hb (by go_simp); have q7 : w9.cell? ⟨w.heap.size + 1, 1, none⟩ = some (.int .i64 cy) := cell_later hb (by go_simp); have q8 : w9.cell? ⟨w.heap.size + 1, 2, none⟩ = some (.int .i64 ix) := cell_later hb (by go_simp); have q9 : w9.cell? ⟨w.heap.size + 1, 3, none⟩ = some (.int .i64 iy) := cell_later hb (by go_simp); have q10 : w9.cell? ⟨w.heap.size + 1, 4, none⟩ = some (.int .i64 m) := cell_later hb (by go_simp))
  all_goals (go_ret; exact ⟨by simp_all, (by repeat (first | with_reducible exact Below.refl _ _ | with_reducible assumption | with_reducible refine Below.drew ?_ | with_reducible refine below_drewN ?_ _ | with_reducible refine Below.setCell ?_ (by first | exact Nat.le_refl _ | (simp; done) | (simp; omega) | (dsimp only; omega)) _ | with_reducible refine Below.alloc ?_ (by first | exact Nat.le_refl _ | (simp; done) | (simp; omega) | (simp at *; omega)) _ | with_reducible refine bstep ?_ (by assumption)))⟩)
theorem spec_l08Vector (x y : Int) (w : World) :
    Calls Try.prog 87 #[.agg #[.int .i64 x, .int .i64 y]] w fun e w' => e = .returned (.agg #[.int .i64 x, .int .i64 y]) ∧ Below w.heap.size w w' := by
  go_enter Try.func87, Try.ntmps87
  go_wp2
  simp [bodyPost, results, Try.results87, go_sem, *]
  exact (by repeat (first | with_reducible exact Below.refl _ _ | with_reducible assumption | with_reducible refine Below.drew ?_ | with_reducible refine below_drewN ?_ _ | with_reducible refine Below.setCell ?_ (by first | exact Nat.le_refl _ | (simp; done) | (simp; omega) | (dsimp only; omega)) _ | with_reducible refine Below.alloc ?_ (by first | exact Nat.le_refl _ | (simp; done) | (simp; omega) | (simp at *; omega)) _ | with_reducible refine bstep ?_ (by assumption)))
theorem spec_l01Cross (x y u v : Int) (h1 : Bd (x * v)) (h2 : Bd (y * u)) (w : World) :
    Calls Try.prog 86 #[.agg #[.int .i64 x, .int .i64 y], .agg #[.int .i64 u, .int .i64 v]] w fun e w' => e = .returned (.int .i64 (x * v - y * u)) ∧ Below w.heap.size w w' := by
  obtain ⟨a1, a2⟩ := h1
  obtain ⟨b1, b2⟩ := h2
  go_enter Try.func86, Try.ntmps86
  go_wp2
  go_ret
  exact ⟨rfl, (by repeat (first | with_reducible exact Below.refl _ _ | with_reducible assumption | with_reducible refine Below.drew ?_ | with_reducible refine below_drewN ?_ _ | with_reducible refine Below.setCell ?_ (by first | exact Nat.le_refl _ | (simp; done) | (simp; omega) | (dsimp only; omega)) _ | with_reducible refine Below.alloc ?_ (by first | exact Nat.le_refl _ | (simp; done) | (simp; omega) | (simp at *; omega)) _ | with_reducible refine bstep ?_ (by assumption)))⟩
theorem spec_l01Dot (x y u v : Int) (h1 : Bd (x * u)) (h2 : Bd (y * v)) (w : World) :
    Calls Try.prog 89 #[.agg #[.int .i64 x, .int .i64 y], .agg #[.int .i64 u, .int .i64 v]] w fun e w' => e = .returned (.int .i64 (x * u + y * v)) ∧ Below w.heap.size w w' := by
  obtain ⟨a1, a2⟩ := h1
  obtain ⟨b1, b2⟩ := h2
  go_enter Try.func89, Try.ntmps89
  go_wp2
  go_ret
  exact ⟨rfl, (by repeat (first | with_reducible exact Below.refl _ _ | with_reducible assumption | with_reducible refine Below.drew ?_ | with_reducible refine below_drewN ?_ _ | with_reducible refine Below.setCell ?_ (by first | exact Nat.le_refl _ | (simp; done) | (simp; omega) | (dsimp only; omega)) _ | with_reducible refine Below.alloc ?_ (by first | exact Nat.le_refl _ | (simp; done) | (simp; omega) | (simp at *; omega)) _ | with_reducible refine bstep ?_ (by assumption)))⟩
theorem impl_scalar (wx wy x y : Int) (h1 : Bd (x * wx)) (h2 : Bd (y * wy)) (w : World) :
    Calls Try.prog 64 #[.agg #[.int .i64 wx, .int .i64 wy], .agg #[.int .i64 x, .int .i64 y]] w fun e w' => e = .returned (.int .i64 (x * wx + y * wy)) ∧ Below w.heap.size w w' := by
  obtain ⟨a1, a2⟩ := h1
  obtain ⟨b1, b2⟩ := h2
  go_enter Try.func64, Try.ntmps64
  go_wp2
  go_ret
  exact ⟨rfl, (by repeat (first | with_reducible exact Below.refl _ _ | with_reducible assumption | with_reducible refine Below.drew ?_ | with_reducible refine below_drewN ?_ _ | with_reducible refine Below.setCell ?_ (by first | exact Nat.le_refl _ | (simp; done) | (simp; omega) | (dsimp only; omega)) _ | with_reducible refine Below.alloc ?_ (by first | exact Nat.le_refl _ | (simp; done) | (simp; omega) | (simp at *; omega)) _ | with_reducible refine bstep ?_ (by assumption)))⟩
theorem spec_l01Sign (n : Int) (w : World) :
    Calls Try.prog 85 #[.int .i64 n] w fun e w' => e = .returned (.int .i64 (sgn n)) ∧ w = w' := by
  go_enter Try.func85, Try.ntmps85
  go_wp2
  all_goals (go_ret; exact ⟨by simp [sgn]; omega, rfl⟩)
theorem spec_l01Abs (n : Int) (h1 : -9000000000000000000 ≤ n) (h2 : n ≤ 9000000000000000000) (w : World) :
    Calls Try.prog 72 #[.int .i64 n] w fun e w' => e = .returned (.int .i64 (absI n)) ∧ w = w' := by
  go_enter Try.func72, Try.ntmps72
  go_wp2
  all_goals (go_ret; exact ⟨ret_i (by unfold absI; split <;> omega), rfl⟩)
theorem tackI_sgn (wx wy x y : Int) : tackI wx wy x y = if (sgn (x * wy - y * wx) == -1) = true then 1 else if (sgn (x * wy - y * wx) == 1) = true then 2 else 0 := by
  unfold tackI sgn; split <;> split <;> simp_all <;> omega
theorem spec_l08Tack (wx wy x y : Int) (h1 : Bd (x * wy)) (h2 : Bd (y * wx)) (w : World) :
    Calls Try.prog 69 #[.agg #[.int .i64 wx, .int .i64 wy], .agg #[.int .i64 x, .int .i64 y]] w fun e w' => e = .returned (.int .i64 (tackI wx wy x y)) ∧ Below w.heap.size w w' := by
  go_enter Try.func69, Try.ntmps69
  go_wp2
  go_region_held3 (fun W => W.cell? ⟨w.heap.size, 0, none⟩ = some (.int .i64 wx) ∧ W.cell? ⟨w.heap.size, 1, none⟩ = some (.int .i64 wy) ∧ W.cell? ⟨w.heap.size + 1, 0, none⟩ = some (.int .i64 x) ∧ W.cell? ⟨w.heap.size + 1, 1, none⟩ = some (.int .i64 y) ∧ Below w.heap.size w W ∧ w.heap.size + 2 ≤ W.heap.size)
    (first | (obtain ⟨k1, k2, k3, k4, kB, kz⟩ := ‹_ ∧ _›; exact ⟨cell_later hb k1, cell_later hb k2, cell_later hb k3, cell_later hb k4, bstep kB hb, bsize kz hb⟩) | (obtain ⟨k1, k2, k3, k4, kB, kz⟩ := ‹_ ∧ _›; exact ⟨k1, k2, k3, k4, kB, kz⟩) | (exact ⟨(by go_simp; done), (by go_simp; done), (by go_simp; done), (by go_simp; done), (by repeat (first | with_reducible exact Below.refl _ _ | with_reducible assumption | with_reducible refine Below.drew ?_ | with_reducible refine below_drewN ?_ _ | with_reducible refine Below.setCell ?_ (by first | exact Nat.le_refl _ | (simp; done) | (simp; omega) | (dsimp only; omega)) _ | with_reducible refine Below.alloc ?_ (by first | exact Nat.le_refl _ | (simp; done) | (simp; omega) | (simp at *; omega)) _ | with_reducible refine bstep ?_ (by assumption))), (by first | (simp; done) | (simp; omega) | omega)⟩))
     (first | (go_at_call 87; (with_reducible refine (spec_l08Vector _ _ _).mono ?_); rintro e w9 ⟨rfl, hb⟩; have hzz := hb.size; (try simp at hzz)) | (go_at_call 86; (with_reducible refine (spec_l01Cross _ _ _ _ h1 h2 _).mono ?_); rintro e w9 ⟨rfl, hb⟩; have hzz := hb.size; (try simp at hzz)) | (go_at_call 85; (with_reducible refine (spec_l01Sign _ _).mono ?_); rintro e w9 ⟨rfl, rfl⟩))
  obtain ⟨k1, k2, k3, k4, kB, kz⟩ := ‹_ ∧ _›
  go_wp2
  all_goals (go_ret; exact ⟨ret_i (by rw [tackI_sgn]; simp [*]), kB⟩)
theorem impl_tackOf (wx wy x y : Int) (h1 : Bd (x * wy)) (h2 : Bd (y * wx)) (w : World) :
    Calls Try.prog 36 #[.agg #[.int .i64 wx, .int .i64 wy], .agg #[.int .i64 x, .int .i64 y]] w fun e w' => e = .returned (.int .i64 (tackI wx wy x y)) ∧ Below w.heap.size w w' := by
  obtain ⟨a1, a2⟩ := h1
  obtain ⟨b1, b2⟩ := h2
  go_enter Try.func36, Try.ntmps36
  go_wp2
  all_goals (go_ret; exact ⟨ret_i (by unfold tackI; (repeat' split) <;> omega), (by repeat (first | with_reducible exact Below.refl _ _ | with_reducible assumption | with_reducible refine Below.drew ?_ | with_reducible refine below_drewN ?_ _ | with_reducible refine Below.setCell ?_ (by first | exact Nat.le_refl _ | (simp; done) | (simp; omega) | (dsimp only; omega)) _ | with_reducible refine Below.alloc ?_ (by first | exact Nat.le_refl _ | (simp; done) | (simp; omega) | (simp at *; omega)) _ | with_reducible refine bstep ?_ (by assumption)))⟩)
end Go.Proofs.Ytnmnibpcklcmgaa
