/- Walks of the small functions: numbers, points, winds, headings, hulls. -/
import Derived.Test.YthlnpcneicmblaaGreatDoorRows
import Derived.Test.YthlnpcneicmblaaGreatDoorBase
import Derived.Outline
import Derived.StillTactics
import Derived.Laws.Pointers
import Derived.Deep.RegionHeld3
namespace Go.Proofs.YthlnpcneicmblaaGreatDoor
open Go.RowKit

theorem impl_within (n lo hi : Int) (w : World) :
 Calls Tryz.prog 41 #[.int .i64 n, .int .i64 lo, .int .i64 hi] w fun e w' => e = .returned (.bool (inB n lo hi)) ∧ w = w' := by
 go_enter Tryz.func41, Tryz.ntmps41
 go_wp2
 all_goals (go_ret; exact ⟨by simp [inB]; omega, rfl⟩)
theorem spec_l01In (n lo hi : Int) (w : World) :
 Calls Tryz.prog 46 #[.int .i64 n, .int .i64 lo, .int .i64 hi] w fun e w' => e = .returned (.bool (inB n lo hi)) ∧ w = w' := by
 go_enter Tryz.func46, Tryz.ntmps46
 go_wp2
 all_goals (go_ret; exact ⟨by simp [inB]; omega, rfl⟩)
theorem impl_IsPoint (x y : Int) (w : World) :
 Calls Tryz.prog 77 #[.agg #[.int .i64 x, .int .i64 y]] w fun e w' => e = .returned (.bool (isPt x y)) ∧ Below w.heap.size w w' := by
 go_enter Tryz.func77, Tryz.ntmps77
 go_wp2_with (go_at_call 41; (with_reducible refine (impl_within _ _ _ _).mono ?_); rintro e w9 ⟨rfl, rfl⟩)
 all_goals (go_ret; exact ⟨by simp_all [isPt], bwz⟩)
theorem spec_IsPoint (x y : Int) (w : World) :
 Calls Tryz.prog 37 #[.agg #[.int .i64 x, .int .i64 y]] w fun e w' => e = .returned (.bool (isPt x y)) ∧ Below w.heap.size w w' := by
 go_enter Tryz.func37, Tryz.ntmps37
 go_wp2_with (go_at_call 46; (with_reducible refine (spec_l01In _ _ _ _).mono ?_); rintro e w9 ⟨rfl, rfl⟩)
 all_goals (go_ret; exact ⟨by simp_all [isPt], bwz⟩)
theorem impl_IsWind (x y : Int) (w : World) :
 Calls Tryz.prog 38 #[.agg #[.int .i64 x, .int .i64 y]] w fun e w' => e = .returned (.bool (isWd x y)) ∧ Below w.heap.size w w' := by
 go_enter Tryz.func38, Tryz.ntmps38
 go_wp2_with (go_at_call 41; (with_reducible refine (impl_within _ _ _ _).mono ?_); rintro e w9 ⟨rfl, rfl⟩)
 all_goals (go_ret; exact ⟨by simp_all [isWd], bwz⟩)
theorem spec_IsWind (x y : Int) (w : World) :
 Calls Tryz.prog 45 #[.agg #[.int .i64 x, .int .i64 y]] w fun e w' => e = .returned (.bool (isWd x y)) ∧ Below w.heap.size w w' := by
 go_enter Tryz.func45, Tryz.ntmps45
 go_wp2_with (go_at_call 46; (with_reducible refine (spec_l01In _ _ _ _).mono ?_); rintro e w9 ⟨rfl, rfl⟩)
 all_goals (go_ret; exact ⟨by simp_all [isWd], bwz⟩)
theorem spec_l08Vector (x y : Int) (w : World) :
 Calls Tryz.prog 99 #[.agg #[.int .i64 x, .int .i64 y]] w fun e w' => e = .returned (.agg #[.int .i64 x, .int .i64 y]) ∧ Below w.heap.size w w' := by
 go_enter Tryz.func99, Tryz.ntmps99
 go_wp2
 simp [bodyPost, results, Tryz.results99, go_sem, *]
 exact bwz
theorem spec_l01Cross (x y u v : Int) (h1 : Bd (x * v)) (h2 : Bd (y * u)) (w : World) :
 Calls Tryz.prog 98 #[.agg #[.int .i64 x, .int .i64 y], .agg #[.int .i64 u, .int .i64 v]] w fun e w' => e = .returned (.int .i64 (x * v - y * u)) ∧ Below w.heap.size w w' := by
 obtain ⟨a1, a2⟩ := h1
 obtain ⟨b1, b2⟩ := h2
 go_enter Tryz.func98, Tryz.ntmps98
 go_wp2
 go_ret
 exact ⟨rfl, bwz⟩
theorem spec_l01Dot (x y u v : Int) (h1 : Bd (x * u)) (h2 : Bd (y * v)) (w : World) :
 Calls Tryz.prog 35 #[.agg #[.int .i64 x, .int .i64 y], .agg #[.int .i64 u, .int .i64 v]] w fun e w' => e = .returned (.int .i64 (x * u + y * v)) ∧ Below w.heap.size w w' := by
 obtain ⟨a1, a2⟩ := h1
 obtain ⟨b1, b2⟩ := h2
 go_enter Tryz.func35, Tryz.ntmps35
 go_wp2
 go_ret
 exact ⟨rfl, bwz⟩
theorem impl_scalar (wx wy x y : Int) (h1 : Bd (x * wx)) (h2 : Bd (y * wy)) (w : World) :
 Calls Tryz.prog 89 #[.agg #[.int .i64 wx, .int .i64 wy], .agg #[.int .i64 x, .int .i64 y]] w fun e w' => e = .returned (.int .i64 (x * wx + y * wy)) ∧ Below w.heap.size w w' := by
 obtain ⟨a1, a2⟩ := h1
 obtain ⟨b1, b2⟩ := h2
 go_enter Tryz.func89, Tryz.ntmps89
 go_wp2
 go_ret
 exact ⟨rfl, bwz⟩
theorem spec_l01Sign (n : Int) (w : World) :
 Calls Tryz.prog 97 #[.int .i64 n] w fun e w' => e = .returned (.int .i64 (sgn n)) ∧ w = w' := by
 go_enter Tryz.func97, Tryz.ntmps97
 go_wp2
 all_goals (go_ret; exact ⟨by simp [sgn]; omega, rfl⟩)
theorem spec_l01Abs (n : Int) (h1 : -9000000000000000000 ≤ n) (h2 : n ≤ 9000000000000000000) (w : World) :
 Calls Tryz.prog 100 #[.int .i64 n] w fun e w' => e = .returned (.int .i64 (absI n)) ∧ w = w' := by
 go_enter Tryz.func100, Tryz.ntmps100
 go_wp2
 all_goals (go_ret; exact ⟨ret_i (by unfold absI; split <;> omega), rfl⟩)
theorem tackI_sgn (wx wy x y : Int) : tackI wx wy x y = if (sgn (x * wy - y * wx) == -1) = true then 1 else if (sgn (x * wy - y * wx) == 1) = true then 2 else 0 := by
 unfold tackI sgn; split <;> split <;> simp_all <;> omega
theorem spec_l08Tack (wx wy x y : Int) (h1 : Bd (x * wy)) (h2 : Bd (y * wx)) (w : World) :
 Calls Tryz.prog 69 #[.agg #[.int .i64 wx, .int .i64 wy], .agg #[.int .i64 x, .int .i64 y]] w fun e w' => e = .returned (.int .i64 (tackI wx wy x y)) ∧ Below w.heap.size w w' := by
 go_enter Tryz.func69, Tryz.ntmps69
 go_wp2
 go_region_held3 (fun W => W.cell? ⟨w.heap.size, 0, none⟩ = some (.int .i64 wx) ∧ W.cell? ⟨w.heap.size, 1, none⟩ = some (.int .i64 wy) ∧ W.cell? ⟨w.heap.size + 1, 0, none⟩ = some (.int .i64 x) ∧ W.cell? ⟨w.heap.size + 1, 1, none⟩ = some (.int .i64 y) ∧ Below w.heap.size w W ∧ w.heap.size + 2 ≤ W.heap.size)
  (first | (obtain ⟨k1, k2, k3, k4, kB, kz⟩ := ‹_ ∧ _›; exact ⟨cell_later hb k1, cell_later hb k2, cell_later hb k3, cell_later hb k4, bstep kB hb, bsize kz hb⟩) | (obtain ⟨k1, k2, k3, k4, kB, kz⟩ := ‹_ ∧ _›; exact ⟨k1, k2, k3, k4, kB, kz⟩) | (exact ⟨(by go_simp; done), (by go_simp; done), (by go_simp; done), (by go_simp; done), bwz, (by first | (simp; done) | (simp; omega) | omega)⟩))
   (first | (go_at_call 99; (with_reducible refine (spec_l08Vector _ _ _).mono ?_); rintro e w9 ⟨rfl, hb⟩; have hzz := hb.size; (try simp at hzz)) | (go_at_call 98; (with_reducible refine (spec_l01Cross _ _ _ _ h1 h2 _).mono ?_); rintro e w9 ⟨rfl, hb⟩; have hzz := hb.size; (try simp at hzz)) | (go_at_call 97; (with_reducible refine (spec_l01Sign _ _).mono ?_); rintro e w9 ⟨rfl, rfl⟩))
 obtain ⟨k1, k2, k3, k4, kB, kz⟩ := ‹_ ∧ _›
 go_wp2
 all_goals (go_ret; exact ⟨ret_i (by rw [tackI_sgn]; simp [*]), kB⟩)
theorem impl_tackOf (wx wy x y : Int) (h1 : Bd (x * wy)) (h2 : Bd (y * wx)) (w : World) :
 Calls Tryz.prog 62 #[.agg #[.int .i64 wx, .int .i64 wy], .agg #[.int .i64 x, .int .i64 y]] w fun e w' => e = .returned (.int .i64 (tackI wx wy x y)) ∧ Below w.heap.size w w' := by
 obtain ⟨a1, a2⟩ := h1
 obtain ⟨b1, b2⟩ := h2
 go_enter Tryz.func62, Tryz.ntmps62
 go_wp2
 all_goals (go_ret; exact ⟨ret_i (by unfold tackI; (repeat' split) <;> omega), bwz⟩)
theorem spec_l08Sail (wx wy x y : Int) (h1 : Bd (x * wx)) (h2 : Bd (y * wy)) (h3 : Bd (x * wy)) (h4 : Bd (y * wx)) (w : World) :
 Calls Tryz.prog 70 #[.agg #[.int .i64 wx, .int .i64 wy], .agg #[.int .i64 x, .int .i64 y]] w fun e w' => e = .returned (.int .i64 (sailI wx wy x y)) ∧ Below w.heap.size w w' := by
 obtain ⟨a1, a2⟩ := h1
 obtain ⟨b1, b2⟩ := h2
 obtain ⟨c1, c2⟩ := h3
 obtain ⟨d1, d2⟩ := h4
 have hab := absI_bd (n := x * wy - y * wx) (b := 8000000000000000000) (by omega) (by omega)
 go_enter Tryz.func70, Tryz.ntmps70
 go_wp2
 go_region_held3 (fun W => W.cell? ⟨w.heap.size, 0, none⟩ = some (.int .i64 wx) ∧ W.cell? ⟨w.heap.size, 1, none⟩ = some (.int .i64 wy) ∧ W.cell? ⟨w.heap.size + 1, 0, none⟩ = some (.int .i64 x) ∧ W.cell? ⟨w.heap.size + 1, 1, none⟩ = some (.int .i64 y) ∧ Below w.heap.size w W ∧ w.heap.size + 2 ≤ W.heap.size)
  (first | (obtain ⟨k1, k2, k3, k4, kB, kz⟩ := ‹_ ∧ _›; exact ⟨cell_later hb k1, cell_later hb k2, cell_later hb k3, cell_later hb k4, bstep kB hb, bsize kz hb⟩) | (obtain ⟨k1, k2, k3, k4, kB, kz⟩ := ‹_ ∧ _›; exact ⟨k1, k2, k3, k4, kB, kz⟩) | (exact ⟨(by go_simp; done), (by go_simp; done), (by go_simp; done), (by go_simp; done), bwz, (by first | (simp; done) | (simp; omega) | omega)⟩))
   (first | (go_at_call 99; (with_reducible refine (spec_l08Vector _ _ _).mono ?_); rintro e w9 ⟨rfl, hb⟩; have hzz := hb.size; (try simp at hzz)) | (go_at_call 98; (with_reducible refine (spec_l01Cross _ _ _ _ (bd_of c1 c2) (bd_of d1 d2) _).mono ?_); rintro e w9 ⟨rfl, hb⟩; have hzz := hb.size; (try simp at hzz)) | (go_at_call 35; (with_reducible refine (spec_l01Dot _ _ _ _ (bd_of a1 a2) (bd_of b1 b2) _).mono ?_); rintro e w9 ⟨rfl, hb⟩; have hzz := hb.size; (try simp at hzz)) | (go_at_call 100; (with_reducible refine (spec_l01Abs _ (by omega) (by omega) _).mono ?_); rintro e w9 ⟨rfl, rfl⟩))
 obtain ⟨k1, k2, k3, k4, kB, kz⟩ := ‹_ ∧ _›
 go_wp2
 all_goals (go_ret; exact ⟨ret_i (by unfold sailI; (repeat' split) <;> omega), kB⟩)
theorem impl_sailOf (wx wy x y : Int) (h1 : Bd (x * wx)) (h2 : Bd (y * wy)) (h3 : Bd (x * wy)) (h4 : Bd (y * wx)) (w : World) :
 Calls Tryz.prog 63 #[.agg #[.int .i64 wx, .int .i64 wy], .agg #[.int .i64 x, .int .i64 y]] w fun e w' => e = .returned (.int .i64 (sailI wx wy x y)) ∧ Below w.heap.size w w' := by
 obtain ⟨a1, a2⟩ := h1
 obtain ⟨b1, b2⟩ := h2
 obtain ⟨c1, c2⟩ := h3
 obtain ⟨d1, d2⟩ := h4
 go_enter Tryz.func63, Tryz.ntmps63
 go_wp2
 go_region_held3 (fun W => W.cell? ⟨w.heap.size, 0, none⟩ = some (.int .i64 wx) ∧ W.cell? ⟨w.heap.size, 1, none⟩ = some (.int .i64 wy) ∧ W.cell? ⟨w.heap.size + 1, 0, none⟩ = some (.int .i64 x) ∧ W.cell? ⟨w.heap.size + 1, 1, none⟩ = some (.int .i64 y) ∧ Below w.heap.size w W ∧ w.heap.size + 2 ≤ W.heap.size)
  (first | (obtain ⟨k1, k2, k3, k4, kB, kz⟩ := ‹_ ∧ _›; exact ⟨cell_later hb k1, cell_later hb k2, cell_later hb k3, cell_later hb k4, bstep kB hb, bsize kz hb⟩) | (obtain ⟨k1, k2, k3, k4, kB, kz⟩ := ‹_ ∧ _›; exact ⟨k1, k2, k3, k4, kB, kz⟩) | (exact ⟨(by go_simp; done), (by go_simp; done), (by go_simp; done), (by go_simp; done), bwz, (by first | (simp; done) | (simp; omega) | omega)⟩))
   (first | (go_at_call 89; (with_reducible refine (impl_scalar _ _ _ _ (bd_of a1 a2) (bd_of b1 b2) _).mono ?_); rintro e w9 ⟨rfl, hb⟩; have hzz := hb.size; (try simp at hzz)))
 obtain ⟨k1, k2, k3, k4, kB, kz⟩ := ‹_ ∧ _›
 go_wp2
 all_goals ((try simp only [beq_iff_eq, beq_eq_false_iff_ne, ne_eq] at *); go_ret; exact ⟨ret_i (by unfold sailI absI; (repeat' split) <;> omega), kB⟩)
end Go.Proofs.YthlnpcneicmblaaGreatDoor
