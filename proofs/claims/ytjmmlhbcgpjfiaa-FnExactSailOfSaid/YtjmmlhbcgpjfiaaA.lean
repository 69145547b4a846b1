/- Walks of the small functions: numbers, points, winds, headings, hulls. -/
import Derived.Test.YtjmmlhbcgpjfiaaRows
import Derived.Test.YtjmmlhbcgpjfiaaBase
import Derived.Outline
import Derived.StillTactics
import Derived.Laws.Pointers
import Derived.Deep.RegionHeld3
namespace Go.Proofs.Ytjmmlhbcgpjfiaa
open Go.RowKit

theorem impl_within (n lo hi : Int) (w : World) :
    Calls Try.prog 26 #[.int .i64 n, .int .i64 lo, .int .i64 hi] w fun e w' => e = .returned (.bool (inB n lo hi)) ∧ w = w' := by
  go_enter Try.func26, Try.ntmps26
  go_wp2
  all_goals (go_ret; exact ⟨by simp [inB]; omega, rfl⟩)
theorem spec_l01In (n lo hi : Int) (w : World) :
    Calls Try.prog 25 #[.int .i64 n, .int .i64 lo, .int .i64 hi] w fun e w' => e = .returned (.bool (inB n lo hi)) ∧ w = w' := by
  go_enter Try.func25, Try.ntmps25
  go_wp2
  all_goals (go_ret; exact ⟨by simp [inB]; omega, rfl⟩)
theorem impl_IsPoint (x y : Int) (w : World) :
    Calls Try.prog 29 #[.agg #[.int .i64 x, .int .i64 y]] w fun e w' => e = .returned (.bool (isPt x y)) ∧ Below w.heap.size w w' := by
  go_enter Try.func29, Try.ntmps29
  go_wp2_with (go_at_call 26; (with_reducible refine (impl_within _ _ _ _).mono ?_); rintro e w9 ⟨rfl, rfl⟩)
  all_goals (go_ret; exact ⟨by simp_all [isPt], (by repeat (first | with_reducible exact Below.refl _ _ | with_reducible assumption | with_reducible refine Below.drew ?_ | with_reducible refine Below.setCell ?_ (by first | exact Nat.le_refl _ | (simp; done) | (simp; omega) | (dsimp only; omega)) _ | with_reducible refine Below.alloc ?_ (by first | exact Nat.le_refl _ | (simp; done) | (simp; omega) | (simp at *; omega)) _ | with_reducible refine bstep ?_ (by assumption)))⟩)
theorem spec_IsPoint (x y : Int) (w : World) :
    Calls Try.prog 27 #[.agg #[.int .i64 x, .int .i64 y]] w fun e w' => e = .returned (.bool (isPt x y)) ∧ Below w.heap.size w w' := by
  go_enter Try.func27, Try.ntmps27
  go_wp2_with (go_at_call 25; (with_reducible refine (spec_l01In _ _ _ _).mono ?_); rintro e w9 ⟨rfl, rfl⟩)
  all_goals (go_ret; exact ⟨by simp_all [isPt], (by repeat (first | with_reducible exact Below.refl _ _ | with_reducible assumption | with_reducible refine Below.drew ?_ | with_reducible refine Below.setCell ?_ (by first | exact Nat.le_refl _ | (simp; done) | (simp; omega) | (dsimp only; omega)) _ | with_reducible refine Below.alloc ?_ (by first | exact Nat.le_refl _ | (simp; done) | (simp; omega) | (simp at *; omega)) _ | with_reducible refine bstep ?_ (by assumption)))⟩)
theorem impl_IsWind (x y : Int) (w : World) :
    Calls Try.prog 11 #[.agg #[.int .i64 x, .int .i64 y]] w fun e w' => e = .returned (.bool (isWd x y)) ∧ Below w.heap.size w w' := by
  go_enter Try.func11, Try.ntmps11
  go_wp2_with (go_at_call 26; (with_reducible refine (impl_within _ _ _ _).mono ?_); rintro e w9 ⟨rfl, rfl⟩)
  all_goals (go_ret; exact ⟨by simp_all [isWd], (by repeat (first | with_reducible exact Below.refl _ _ | with_reducible assumption | with_reducible refine Below.drew ?_ | with_reducible refine Below.setCell ?_ (by first | exact Nat.le_refl _ | (simp; done) | (simp; omega) | (dsimp only; omega)) _ | with_reducible refine Below.alloc ?_ (by first | exact Nat.le_refl _ | (simp; done) | (simp; omega) | (simp at *; omega)) _ | with_reducible refine bstep ?_ (by assumption)))⟩)
theorem spec_IsWind (x y : Int) (w : World) :
    Calls Try.prog 9 #[.agg #[.int .i64 x, .int .i64 y]] w fun e w' => e = .returned (.bool (isWd x y)) ∧ Below w.heap.size w w' := by
  go_enter Try.func9, Try.ntmps9
  go_wp2_with (go_at_call 25; (with_reducible refine (spec_l01In _ _ _ _).mono ?_); rintro e w9 ⟨rfl, rfl⟩)
  all_goals (go_ret; exact ⟨by simp_all [isWd], (by repeat (first | with_reducible exact Below.refl _ _ | with_reducible assumption | with_reducible refine Below.drew ?_ | with_reducible refine Below.setCell ?_ (by first | exact Nat.le_refl _ | (simp; done) | (simp; omega) | (dsimp only; omega)) _ | with_reducible refine Below.alloc ?_ (by first | exact Nat.le_refl _ | (simp; done) | (simp; omega) | (simp at *; omega)) _ | with_reducible refine bstep ?_ (by assumption)))⟩)
theorem impl_isHeading (x y : Int) (w : World) :
    Calls Try.prog 30 #[.agg #[.int .i64 x, .int .i64 y]] w fun e w' => e = .returned (.bool (isHd x y)) ∧ Below w.heap.size w w' := by
  go_enter Try.func30, Try.ntmps30
  go_wp2_with (go_at_call 26; (with_reducible refine (impl_within _ _ _ _).mono ?_); rintro e w9 ⟨rfl, rfl⟩)
  all_goals (go_ret; exact ⟨by simp_all [isHd], (by repeat (first | with_reducible exact Below.refl _ _ | with_reducible assumption | with_reducible refine Below.drew ?_ | with_reducible refine Below.setCell ?_ (by first | exact Nat.le_refl _ | (simp; done) | (simp; omega) | (dsimp only; omega)) _ | with_reducible refine Below.alloc ?_ (by first | exact Nat.le_refl _ | (simp; done) | (simp; omega) | (simp at *; omega)) _ | with_reducible refine bstep ?_ (by assumption)))⟩)
theorem spec_l08Heading (x y : Int) (w : World) :
    Calls Try.prog 28 #[.agg #[.int .i64 x, .int .i64 y]] w fun e w' => e = .returned (.bool (isHd x y)) ∧ Below w.heap.size w w' := by
  go_enter Try.func28, Try.ntmps28
  go_wp2_with (go_at_call 25; (with_reducible refine (spec_l01In _ _ _ _).mono ?_); rintro e w9 ⟨rfl, rfl⟩)
  all_goals (go_ret; exact ⟨by simp_all [isHd], (by repeat (first | with_reducible exact Below.refl _ _ | with_reducible assumption | with_reducible refine Below.drew ?_ | with_reducible refine Below.setCell ?_ (by first | exact Nat.le_refl _ | (simp; done) | (simp; omega) | (dsimp only; omega)) _ | with_reducible refine Below.alloc ?_ (by first | exact Nat.le_refl _ | (simp; done) | (simp; omega) | (simp at *; omega)) _ | with_reducible refine bstep ?_ (by assumption)))⟩)
theorem impl_IsHull (bx bY hx hy l : Int) (w : World) :
    Calls Try.prog 17 #[.agg #[.int .i64 bx, .int .i64 bY, .int .i64 hx, .int .i64 hy, .int .i64 l]] w fun e w' => e = .returned (.bool (isHu bx bY hx hy l)) ∧ Below w.heap.size w w' := by
  go_enter Try.func17, Try.ntmps17
  go_wp2_with (first | (go_at_call 29; (with_reducible refine (impl_IsPoint _ _ _).mono ?_); rintro e w9 ⟨rfl, hb⟩; have q1 : w9.cell? ⟨w.heap.size, 0, none⟩ = some (.int .i64 bx) := cell_later hb (by go_simp); have q2 : w9.cell? ⟨w.heap.size, 1, none⟩ = some (.int .i64 bY) := cell_later hb (by go_simp); have q3 : w9.cell? ⟨w.heap.size, 2, none⟩ = some (.int .i64 hx) := cell_later hb (by go_simp); have q4 : w9.cell? ⟨w.heap.size, 3, none⟩ = some (.int .i64 hy) := cell_later hb (by go_simp); have q5 : w9.cell? ⟨w.heap.size, 4, none⟩ = some (.int .i64 l) := cell_later hb (by go_simp)) | (go_at_call 30; (with_reducible refine (impl_isHeading _ _ _).mono ?_); rintro e w9 ⟨rfl, hb⟩; have q1 : w9.cell? ⟨w.heap.size, 0, none⟩ = some (.int .i64 bx) := cell_later hb (by go_simp); have q2 : w9.cell? ⟨w.heap.size, 1, none⟩ = some (.int .i64 bY) := cell_later hb (by go_simp); have q3 : w9.cell? ⟨w.heap.size, 2, none⟩ = some (.int .i64 hx) := cell_later hb (by go_simp); have q4 : w9.cell? ⟨w.heap.size, 3, none⟩ = some (.int .i64 hy) := cell_later hb (by go_simp); have q5 : w9.cell? ⟨w.heap.size, 4, none⟩ = some (.int .i64 l) := cell_later hb (by go_simp)) | (go_at_call 26; (with_reducible refine (impl_within _ _ _ _).mono ?_); rintro e w9 ⟨rfl, rfl⟩))
  all_goals (go_ret; exact ⟨by simp_all [isHu], (by repeat (first | with_reducible exact Below.refl _ _ | with_reducible assumption | with_reducible refine Below.drew ?_ | with_reducible refine Below.setCell ?_ (by first | exact Nat.le_refl _ | (simp; done) | (simp; omega) | (dsimp only; omega)) _ | with_reducible refine Below.alloc ?_ (by first | exact Nat.le_refl _ | (simp; done) | (simp; omega) | (simp at *; omega)) _ | with_reducible refine bstep ?_ (by assumption)))⟩)
theorem spec_IsHull (bx bY hx hy l : Int) (w : World) :
    Calls Try.prog 15 #[.agg #[.int .i64 bx, .int .i64 bY, .int .i64 hx, .int .i64 hy, .int .i64 l]] w fun e w' => e = .returned (.bool (isHu bx bY hx hy l)) ∧ Below w.heap.size w w' := by
  go_enter Try.func15, Try.ntmps15
  go_wp2_with (first | (go_at_call 27; (with_reducible refine (spec_IsPoint _ _ _).mono ?_); rintro e w9 ⟨rfl, hb⟩; have q1 : w9.cell? ⟨w.heap.size, 0, none⟩ = some (.int .i64 bx) := cell_later hb (by go_simp); have q2 : w9.cell? ⟨w.heap.size, 1, none⟩ = some (.int .i64 bY) := cell_later hb (by go_simp); have q3 : w9.cell? ⟨w.heap.size, 2, none⟩ = some (.int .i64 hx) := cell_later hb (by go_simp); have q4 : w9.cell? ⟨w.heap.size, 3, none⟩ = some (.int .i64 hy) := cell_later hb (by go_simp); have q5 : w9.cell? ⟨w.heap.size, 4, none⟩ = some (.int .i64 l) := cell_later hb (by go_simp)) | (go_at_call 28; (with_reducible refine (spec_l08Heading _ _ _).mono ?_); rintro e w9 ⟨rfl, hb⟩; have q1 : w9.cell? ⟨w.heap.size, 0, none⟩ = some (.int .i64 bx) := cell_later hb (by go_simp); have q2 : w9.cell? ⟨w.heap.size, 1, none⟩ = some (.int .i64 bY) := cell_later hb (by go_simp); have q3 : w9.cell? ⟨w.heap.size, 2, none⟩ = some (.int .i64 hx) := cell_later hb (by go_simp); have q4 : w9.cell? ⟨w.heap.size, 3, none⟩ = some (.int .i64 hy) := cell_later hb (by go_simp); have q5 : w9.cell? ⟨w.heap.size, 4, none⟩ = some (.int .i64 l) := cell_later hb (by go_simp)) | (go_at_call 25; (with_reducible refine (spec_l01In _ _ _ _).mono ?_); rintro e w9 ⟨rfl, rfl⟩))
  all_goals (go_ret; exact ⟨by simp_all [isHu], (by repeat (first | with_reducible exact Below.refl _ _ | with_reducible assumption | with_reducible refine Below.drew ?_ | with_reducible refine Below.setCell ?_ (by first | exact Nat.le_refl _ | (simp; done) | (simp; omega) | (dsimp only; omega)) _ | with_reducible refine Below.alloc ?_ (by first | exact Nat.le_refl _ | (simp; done) | (simp; omega) | (simp at *; omega)) _ | with_reducible refine bstep ?_ (by assumption)))⟩)
theorem impl_areHulls (bx bY hx hy l cx cy ix iy m : Int) (w : World) :
    Calls Try.prog 36 #[.agg #[.int .i64 bx, .int .i64 bY, .int .i64 hx, .int .i64 hy, .int .i64 l], .agg #[.int .i64 cx, .int .i64 cy, .int .i64 ix, .int .i64 iy, .int .i64 m]] w fun e w' => e = .returned (.bool (isHu bx bY hx hy l && isHu cx cy ix iy m)) ∧ Below w.heap.size w w' := by
  go_enter Try.func36, Try.ntmps36
  go_wp2_with (go_at_call 17; (with_reducible refine (impl_IsHull _ _ _ _ _ _).mono ?_); rintro e w9 ⟨rfl, hb⟩; have q1 : w9.cell? ⟨w.heap.size, 0, none⟩ = some (.int .i64 bx) := cell_later hb (by go_simp); have q2 : w9.cell? ⟨w.heap.size, 1, none⟩ = some (.int .i64 bY) := cell_later hb (by go_simp); have q3 : w9.cell? ⟨w.heap.size, 2, none⟩ = some (.int .i64 hx) := cell_later hb (by go_simp); have q4 : w9.cell? ⟨w.heap.size, 3, none⟩ = some (.int .i64 hy) := cell_later hb (by go_simp); have q5 : w9.cell? ⟨w.heap.size, 4, none⟩ = some (.int .i64 l) := cell_later hb (by go_simp); have q6 : w9.cell? ⟨w.heap.size + 1, 0, none⟩ = some (.int .i64 cx) := cell_later hb (by go_simp); have q7 : w9.cell? ⟨w.heap.size + 1, 1, none⟩ = some (.int .i64 cy) := cell_later hb (by go_simp); have q8 : w9.cell? ⟨w.heap.size + 1, 2, none⟩ = some (.int .i64 ix) := cell_later hb (by go_simp); have q9 : w9.cell? ⟨w.heap.size + 1, 3, none⟩ = some (.int .i64 iy) := cell_later hb (by go_simp); have q10 : w9.cell? ⟨w.heap.size + 1, 4, none⟩ = some (.int .i64 m) := cell_later hb (by go_simp))
  all_goals (go_ret; exact ⟨by simp_all, (by repeat (first | with_reducible exact Below.refl _ _ | with_reducible assumption | with_reducible refine Below.drew ?_ | with_reducible refine Below.setCell ?_ (by first | exact Nat.le_refl _ | (simp; done) | (simp; omega) | (dsimp only; omega)) _ | with_reducible refine Below.alloc ?_ (by first | exact Nat.le_refl _ | (simp; done) | (simp; omega) | (simp at *; omega)) _ | with_reducible refine bstep ?_ (by assumption)))⟩)
theorem impl_IsRoom (g r : Int) (w : World) :
    Calls Try.prog 14 #[.agg #[.int .i64 g, .int .i64 r]] w fun e w' => e = .returned (.bool (isRm g r)) ∧ Below w.heap.size w w' := by
  go_enter Try.func14, Try.ntmps14
  go_wp2_with (go_at_call 26; (with_reducible refine (impl_within _ _ _ _).mono ?_); rintro e w9 ⟨rfl, rfl⟩)
  all_goals (go_ret; exact ⟨by simp_all [isRm], (by repeat (first | with_reducible exact Below.refl _ _ | with_reducible assumption | with_reducible refine Below.drew ?_ | with_reducible refine Below.setCell ?_ (by first | exact Nat.le_refl _ | (simp; done) | (simp; omega) | (dsimp only; omega)) _ | with_reducible refine Below.alloc ?_ (by first | exact Nat.le_refl _ | (simp; done) | (simp; omega) | (simp at *; omega)) _ | with_reducible refine bstep ?_ (by assumption)))⟩)
theorem spec_IsRoom (g r : Int) (w : World) :
    Calls Try.prog 12 #[.agg #[.int .i64 g, .int .i64 r]] w fun e w' => e = .returned (.bool (isRm g r)) ∧ Below w.heap.size w w' := by
  go_enter Try.func12, Try.ntmps12
  go_wp2
  all_goals (go_ret; exact ⟨ret_b (by first | (simp_all [isRm, inB]; done) | (simp_all [isRm, inB]; rw [Bool.eq_iff_iff]; simp; omega) | (simp_all [isRm, inB]; omega)), (by repeat (first | with_reducible exact Below.refl _ _ | with_reducible assumption | with_reducible refine Below.drew ?_ | with_reducible refine Below.setCell ?_ (by first | exact Nat.le_refl _ | (simp; done) | (simp; omega) | (dsimp only; omega)) _ | with_reducible refine Below.alloc ?_ (by first | exact Nat.le_refl _ | (simp; done) | (simp; omega) | (simp at *; omega)) _ | with_reducible refine bstep ?_ (by assumption)))⟩)
theorem spec_l08Vector (x y : Int) (w : World) :
    Calls Try.prog 40 #[.agg #[.int .i64 x, .int .i64 y]] w fun e w' => e = .returned (.agg #[.int .i64 x, .int .i64 y]) ∧ Below w.heap.size w w' := by
  go_enter Try.func40, Try.ntmps40
  go_wp2
  simp [bodyPost, results, Try.results40, go_sem, *]
  exact (by repeat (first | with_reducible exact Below.refl _ _ | with_reducible assumption | with_reducible refine Below.drew ?_ | with_reducible refine Below.setCell ?_ (by first | exact Nat.le_refl _ | (simp; done) | (simp; omega) | (dsimp only; omega)) _ | with_reducible refine Below.alloc ?_ (by first | exact Nat.le_refl _ | (simp; done) | (simp; omega) | (simp at *; omega)) _ | with_reducible refine bstep ?_ (by assumption)))
theorem laws_toPoint (x y : Int) (w : World) :
    Calls Try.prog 19 #[.agg #[.int .i64 x, .int .i64 y]] w fun e w' => e = .returned (.agg #[.int .i64 x, .int .i64 y]) ∧ Below w.heap.size w w' := by
  go_enter Try.func19, Try.ntmps19
  go_wp2
  simp [bodyPost, results, Try.results19, go_sem, *]
  exact (by repeat (first | with_reducible exact Below.refl _ _ | with_reducible assumption | with_reducible refine Below.drew ?_ | with_reducible refine Below.setCell ?_ (by first | exact Nat.le_refl _ | (simp; done) | (simp; omega) | (dsimp only; omega)) _ | with_reducible refine Below.alloc ?_ (by first | exact Nat.le_refl _ | (simp; done) | (simp; omega) | (simp at *; omega)) _ | with_reducible refine bstep ?_ (by assumption)))
theorem laws_toWind (x y : Int) (w : World) :
    Calls Try.prog 10 #[.agg #[.int .i64 x, .int .i64 y]] w fun e w' => e = .returned (.agg #[.int .i64 x, .int .i64 y]) ∧ Below w.heap.size w w' := by
  go_enter Try.func10, Try.ntmps10
  go_wp2
  simp [bodyPost, results, Try.results10, go_sem, *]
  exact (by repeat (first | with_reducible exact Below.refl _ _ | with_reducible assumption | with_reducible refine Below.drew ?_ | with_reducible refine Below.setCell ?_ (by first | exact Nat.le_refl _ | (simp; done) | (simp; omega) | (dsimp only; omega)) _ | with_reducible refine Below.alloc ?_ (by first | exact Nat.le_refl _ | (simp; done) | (simp; omega) | (simp at *; omega)) _ | with_reducible refine bstep ?_ (by assumption)))
theorem laws_toRoom (x y : Int) (w : World) :
    Calls Try.prog 13 #[.agg #[.int .i64 x, .int .i64 y]] w fun e w' => e = .returned (.agg #[.int .i64 x, .int .i64 y]) ∧ Below w.heap.size w w' := by
  go_enter Try.func13, Try.ntmps13
  go_wp2
  simp [bodyPost, results, Try.results13, go_sem, *]
  exact (by repeat (first | with_reducible exact Below.refl _ _ | with_reducible assumption | with_reducible refine Below.drew ?_ | with_reducible refine Below.setCell ?_ (by first | exact Nat.le_refl _ | (simp; done) | (simp; omega) | (dsimp only; omega)) _ | with_reducible refine Below.alloc ?_ (by first | exact Nat.le_refl _ | (simp; done) | (simp; omega) | (simp at *; omega)) _ | with_reducible refine bstep ?_ (by assumption)))
theorem spec_l01Cross (x y u v : Int) (h1 : Bd (x * v)) (h2 : Bd (y * u)) (w : World) :
    Calls Try.prog 39 #[.agg #[.int .i64 x, .int .i64 y], .agg #[.int .i64 u, .int .i64 v]] w fun e w' => e = .returned (.int .i64 (x * v - y * u)) ∧ Below w.heap.size w w' := by
  obtain ⟨a1, a2⟩ := h1
  obtain ⟨b1, b2⟩ := h2
  go_enter Try.func39, Try.ntmps39
  go_wp2
  go_ret
  exact ⟨rfl, (by repeat (first | with_reducible exact Below.refl _ _ | with_reducible assumption | with_reducible refine Below.drew ?_ | with_reducible refine Below.setCell ?_ (by first | exact Nat.le_refl _ | (simp; done) | (simp; omega) | (dsimp only; omega)) _ | with_reducible refine Below.alloc ?_ (by first | exact Nat.le_refl _ | (simp; done) | (simp; omega) | (simp at *; omega)) _ | with_reducible refine bstep ?_ (by assumption)))⟩
theorem spec_l01Dot (x y u v : Int) (h1 : Bd (x * u)) (h2 : Bd (y * v)) (w : World) :
    Calls Try.prog 41 #[.agg #[.int .i64 x, .int .i64 y], .agg #[.int .i64 u, .int .i64 v]] w fun e w' => e = .returned (.int .i64 (x * u + y * v)) ∧ Below w.heap.size w w' := by
  obtain ⟨a1, a2⟩ := h1
  obtain ⟨b1, b2⟩ := h2
  go_enter Try.func41, Try.ntmps41
  go_wp2
  go_ret
  exact ⟨rfl, (by repeat (first | with_reducible exact Below.refl _ _ | with_reducible assumption | with_reducible refine Below.drew ?_ | with_reducible refine Below.setCell ?_ (by first | exact Nat.le_refl _ | (simp; done) | (simp; omega) | (dsimp only; omega)) _ | with_reducible refine Below.alloc ?_ (by first | exact Nat.le_refl _ | (simp; done) | (simp; omega) | (simp at *; omega)) _ | with_reducible refine bstep ?_ (by assumption)))⟩
theorem impl_scalar (wx wy x y : Int) (h1 : Bd (x * wx)) (h2 : Bd (y * wy)) (w : World) :
    Calls Try.prog 42 #[.agg #[.int .i64 wx, .int .i64 wy], .agg #[.int .i64 x, .int .i64 y]] w fun e w' => e = .returned (.int .i64 (x * wx + y * wy)) ∧ Below w.heap.size w w' := by
  obtain ⟨a1, a2⟩ := h1
  obtain ⟨b1, b2⟩ := h2
  go_enter Try.func42, Try.ntmps42
  go_wp2
  go_ret
  exact ⟨rfl, (by repeat (first | with_reducible exact Below.refl _ _ | with_reducible assumption | with_reducible refine Below.drew ?_ | with_reducible refine Below.setCell ?_ (by first | exact Nat.le_refl _ | (simp; done) | (simp; omega) | (dsimp only; omega)) _ | with_reducible refine Below.alloc ?_ (by first | exact Nat.le_refl _ | (simp; done) | (simp; omega) | (simp at *; omega)) _ | with_reducible refine bstep ?_ (by assumption)))⟩
theorem spec_l01Sign (n : Int) (w : World) :
    Calls Try.prog 43 #[.int .i64 n] w fun e w' => e = .returned (.int .i64 (sgn n)) ∧ w = w' := by
  go_enter Try.func43, Try.ntmps43
  go_wp2
  all_goals (go_ret; exact ⟨by simp [sgn]; omega, rfl⟩)
theorem spec_l01Abs (n : Int) (h1 : -9000000000000000000 ≤ n) (h2 : n ≤ 9000000000000000000) (w : World) :
    Calls Try.prog 38 #[.int .i64 n] w fun e w' => e = .returned (.int .i64 (absI n)) ∧ w = w' := by
  go_enter Try.func38, Try.ntmps38
  go_wp2
  all_goals (go_ret; exact ⟨ret_i (by unfold absI; split <;> omega), rfl⟩)
theorem tackI_sgn (wx wy x y : Int) : tackI wx wy x y = if (sgn (x * wy - y * wx) == -1) = true then 1 else if (sgn (x * wy - y * wx) == 1) = true then 2 else 0 := by
  unfold tackI sgn; split <;> split <;> simp_all <;> omega
theorem spec_l08Tack (wx wy x y : Int) (h1 : Bd (x * wy)) (h2 : Bd (y * wx)) (w : World) :
    Calls Try.prog 33 #[.agg #[.int .i64 wx, .int .i64 wy], .agg #[.int .i64 x, .int .i64 y]] w fun e w' => e = .returned (.int .i64 (tackI wx wy x y)) ∧ Below w.heap.size w w' := by
  go_enter Try.func33, Try.ntmps33
  go_wp2
  go_region_held3 (fun W => W.cell? ⟨w.heap.size, 0, none⟩ = some (.int .i64 wx) ∧ W.cell? ⟨w.heap.size, 1, none⟩ = some (.int .i64 wy) ∧ W.cell? ⟨w.heap.size + 1, 0, none⟩ = some (.int .i64 x) ∧ W.cell? ⟨w.heap.size + 1, 1, none⟩ = some (.int .i64 y) ∧ Below w.heap.size w W ∧ w.heap.size + 2 ≤ W.heap.size)
    (first | (obtain ⟨k1, k2, k3, k4, kB, kz⟩ := ‹_ ∧ _›; exact ⟨cell_later hb k1, cell_later hb k2, cell_later hb k3, cell_later hb k4, bstep kB hb, bsize kz hb⟩) | exact ⟨(by go_simp; done), (by go_simp; done), (by go_simp; done), (by go_simp; done), (by repeat (first | with_reducible exact Below.refl _ _ | with_reducible assumption | with_reducible refine Below.drew ?_ | with_reducible refine Below.setCell ?_ (by first | exact Nat.le_refl _ | (simp; done) | (simp; omega) | (dsimp only; omega)) _ | with_reducible refine Below.alloc ?_ (by first | exact Nat.le_refl _ | (simp; done) | (simp; omega) | (simp at *; omega)) _ | with_reducible refine bstep ?_ (by assumption))), (by first | (simp; done) | (simp; omega) | omega)⟩ | (obtain ⟨k1, k2, k3, k4, kB, kz⟩ := ‹_ ∧ _›; exact ⟨k1, k2, k3, k4, kB, kz⟩))
     (first | (go_at_call 40; (with_reducible refine (spec_l08Vector _ _ _).mono ?_); rintro e w9 ⟨rfl, hb⟩) | (go_at_call 39; (with_reducible refine (spec_l01Cross _ _ _ _ h1 h2 _).mono ?_); rintro e w9 ⟨rfl, hb⟩) | (go_at_call 43; (with_reducible refine (spec_l01Sign _ _).mono ?_); rintro e w9 ⟨rfl, rfl⟩))
  obtain ⟨k1, k2, k3, k4, kB, kz⟩ := ‹_ ∧ _›
  go_wp2
  all_goals (go_ret; exact ⟨ret_i (by rw [tackI_sgn]; simp [*]), kB⟩)
theorem impl_tackOf (wx wy x y : Int) (h1 : Bd (x * wy)) (h2 : Bd (y * wx)) (w : World) :
    Calls Try.prog 34 #[.agg #[.int .i64 wx, .int .i64 wy], .agg #[.int .i64 x, .int .i64 y]] w fun e w' => e = .returned (.int .i64 (tackI wx wy x y)) ∧ Below w.heap.size w w' := by
  obtain ⟨a1, a2⟩ := h1
  obtain ⟨b1, b2⟩ := h2
  go_enter Try.func34, Try.ntmps34
  go_wp2
  all_goals (go_ret; exact ⟨ret_i (by unfold tackI; (repeat' split) <;> omega), (by repeat (first | with_reducible exact Below.refl _ _ | with_reducible assumption | with_reducible refine Below.drew ?_ | with_reducible refine Below.setCell ?_ (by first | exact Nat.le_refl _ | (simp; done) | (simp; omega) | (dsimp only; omega)) _ | with_reducible refine Below.alloc ?_ (by first | exact Nat.le_refl _ | (simp; done) | (simp; omega) | (simp at *; omega)) _ | with_reducible refine bstep ?_ (by assumption)))⟩)
theorem laws_toHull (bx bY hx hy l : Int) (w : World) :
    Calls Try.prog 16 #[.agg #[.int .i64 bx, .int .i64 bY, .int .i64 hx, .int .i64 hy, .int .i64 l]] w fun e w' => e = .returned (.agg #[.int .i64 bx, .int .i64 bY, .int .i64 hx, .int .i64 hy, .int .i64 l]) ∧ Below w.heap.size w w' := by
  go_enter Try.func16, Try.ntmps16
  go_wp2_with (go_at_call 19; (with_reducible refine (laws_toPoint _ _ _).mono ?_); rintro e w9 ⟨rfl, hb⟩; obtain ⟨hc, hf⟩ := bcell hb; have hz := hb.size; have z0 : w.heap.size < w9.heap.size := (by first | omega | (simp at hz; omega)); have z1 : w.heap.size + 1 < w9.heap.size := (by first | omega | (simp at hz; omega)); have z2 : w.heap.size + 1 + 1 < w9.heap.size := (by first | omega | (simp at hz; omega)))
  simp [bodyPost, results, Try.results16, go_sem, *]
  exact (by repeat (first | with_reducible exact Below.refl _ _ | with_reducible assumption | with_reducible refine Below.drew ?_ | with_reducible refine Below.setCell ?_ (by first | exact Nat.le_refl _ | (simp; done) | (simp; omega) | (dsimp only; omega)) _ | with_reducible refine Below.alloc ?_ (by first | exact Nat.le_refl _ | (simp; done) | (simp; omega) | (simp at *; omega)) _ | with_reducible refine bstep ?_ (by assumption)))
theorem spec_l08Sail (wx wy x y : Int) (h1 : Bd (x * wx)) (h2 : Bd (y * wy)) (h3 : Bd (x * wy)) (h4 : Bd (y * wx)) (w : World) :
    Calls Try.prog 31 #[.agg #[.int .i64 wx, .int .i64 wy], .agg #[.int .i64 x, .int .i64 y]] w fun e w' => e = .returned (.int .i64 (sailI wx wy x y)) ∧ Below w.heap.size w w' := by
  obtain ⟨a1, a2⟩ := h1
  obtain ⟨b1, b2⟩ := h2
  obtain ⟨c1, c2⟩ := h3
  obtain ⟨d1, d2⟩ := h4
  have hab := absI_bd (n := x * wy - y * wx) (b := 8000000000000000000) (by omega) (by omega)
  go_enter Try.func31, Try.ntmps31
  go_wp2
  go_region_held3 (fun W => W.cell? ⟨w.heap.size, 0, none⟩ = some (.int .i64 wx) ∧ W.cell? ⟨w.heap.size, 1, none⟩ = some (.int .i64 wy) ∧ W.cell? ⟨w.heap.size + 1, 0, none⟩ = some (.int .i64 x) ∧ W.cell? ⟨w.heap.size + 1, 1, none⟩ = some (.int .i64 y) ∧ Below w.heap.size w W ∧ w.heap.size + 2 ≤ W.heap.size)
    (first | (obtain ⟨k1, k2, k3, k4, kB, kz⟩ := ‹_ ∧ _›; exact ⟨cell_later hb k1, cell_later hb k2, cell_later hb k3, cell_later hb k4, bstep kB hb, bsize kz hb⟩) | exact ⟨(by go_simp; done), (by go_simp; done), (by go_simp; done), (by go_simp; done), (by repeat (first | with_reducible exact Below.refl _ _ | with_reducible assumption | with_reducible refine Below.drew ?_ | with_reducible refine Below.setCell ?_ (by first | exact Nat.le_refl _ | (simp; done) | (simp; omega) | (dsimp only; omega)) _ | with_reducible refine Below.alloc ?_ (by first | exact Nat.le_refl _ | (simp; done) | (simp; omega) | (simp at *; omega)) _ | with_reducible refine bstep ?_ (by assumption))), (by first | (simp; done) | (simp; omega) | omega)⟩ | (obtain ⟨k1, k2, k3, k4, kB, kz⟩ := ‹_ ∧ _›; exact ⟨k1, k2, k3, k4, kB, kz⟩))
     (first | (go_at_call 40; (with_reducible refine (spec_l08Vector _ _ _).mono ?_); rintro e w9 ⟨rfl, hb⟩) | (go_at_call 39; (with_reducible refine (spec_l01Cross _ _ _ _ (bd_of c1 c2) (bd_of d1 d2) _).mono ?_); rintro e w9 ⟨rfl, hb⟩) | (go_at_call 41; (with_reducible refine (spec_l01Dot _ _ _ _ (bd_of a1 a2) (bd_of b1 b2) _).mono ?_); rintro e w9 ⟨rfl, hb⟩) | (go_at_call 38; (with_reducible refine (spec_l01Abs _ (by omega) (by omega) _).mono ?_); rintro e w9 ⟨rfl, rfl⟩))
  obtain ⟨k1, k2, k3, k4, kB, kz⟩ := ‹_ ∧ _›
  go_wp2
  all_goals (go_ret; exact ⟨ret_i (by unfold sailI; (repeat' split) <;> omega), kB⟩)
theorem impl_sailOf (wx wy x y : Int) (h1 : Bd (x * wx)) (h2 : Bd (y * wy)) (h3 : Bd (x * wy)) (h4 : Bd (y * wx)) (w : World) :
    Calls Try.prog 32 #[.agg #[.int .i64 wx, .int .i64 wy], .agg #[.int .i64 x, .int .i64 y]] w fun e w' => e = .returned (.int .i64 (sailI wx wy x y)) ∧ Below w.heap.size w w' := by
  obtain ⟨a1, a2⟩ := h1
  obtain ⟨b1, b2⟩ := h2
  obtain ⟨c1, c2⟩ := h3
  obtain ⟨d1, d2⟩ := h4
  go_enter Try.func32, Try.ntmps32
  go_wp2
  go_region_held3 (fun W => W.cell? ⟨w.heap.size, 0, none⟩ = some (.int .i64 wx) ∧ W.cell? ⟨w.heap.size, 1, none⟩ = some (.int .i64 wy) ∧ W.cell? ⟨w.heap.size + 1, 0, none⟩ = some (.int .i64 x) ∧ W.cell? ⟨w.heap.size + 1, 1, none⟩ = some (.int .i64 y) ∧ Below w.heap.size w W ∧ w.heap.size + 2 ≤ W.heap.size)
    (first | (obtain ⟨k1, k2, k3, k4, kB, kz⟩ := ‹_ ∧ _›; exact ⟨cell_later hb k1, cell_later hb k2, cell_later hb k3, cell_later hb k4, bstep kB hb, bsize kz hb⟩) | exact ⟨(by go_simp; done), (by go_simp; done), (by go_simp; done), (by go_simp; done), (by repeat (first | with_reducible exact Below.refl _ _ | with_reducible assumption | with_reducible refine Below.drew ?_ | with_reducible refine Below.setCell ?_ (by first | exact Nat.le_refl _ | (simp; done) | (simp; omega) | (dsimp only; omega)) _ | with_reducible refine Below.alloc ?_ (by first | exact Nat.le_refl _ | (simp; done) | (simp; omega) | (simp at *; omega)) _ | with_reducible refine bstep ?_ (by assumption))), (by first | (simp; done) | (simp; omega) | omega)⟩ | (obtain ⟨k1, k2, k3, k4, kB, kz⟩ := ‹_ ∧ _›; exact ⟨k1, k2, k3, k4, kB, kz⟩))
     (first | (go_at_call 42; (with_reducible refine (impl_scalar _ _ _ _ (bd_of a1 a2) (bd_of b1 b2) _).mono ?_); rintro e w9 ⟨rfl, hb⟩))
  obtain ⟨k1, k2, k3, k4, kB, kz⟩ := ‹_ ∧ _›
  go_wp2
  all_goals ((try simp only [beq_iff_eq, beq_eq_false_iff_ne, ne_eq] at *); go_ret; exact ⟨ret_i (by unfold sailI absI; (repeat' split) <;> omega), kB⟩)
end Go.Proofs.Ytjmmlhbcgpjfiaa
