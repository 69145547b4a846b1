/- Walks of the functions of winds and hulls that the laws name. -/
import Derived.Test.YtndlpoffpcpnkaaA
namespace Go.Proofs.Ytndlpoffpcpnkaa
open Go.RowKit

set_option maxHeartbeats 1000000 in
theorem impl_windwardOf (wx wy bx bY hx hy l cx cy ix iy m : Int) (h1 : isWd wx wy = true) (h2 : isHu bx bY hx hy l = true) (h3 : isHu cx cy ix iy m = true) (w : World) :
    Calls Try.prog 30 #[.agg #[.int .i64 wx, .int .i64 wy], .agg #[.int .i64 bx, .int .i64 bY, .int .i64 hx, .int .i64 hy, .int .i64 l], .agg #[.int .i64 cx, .int .i64 cy, .int .i64 ix, .int .i64 iy, .int .i64 m]] w fun e w' => e = .returned (.int .i64 (wwI wx wy bx bY cx cy)) ∧ Below w.heap.size w w' := by
  obtain ⟨p1, _, _, p4⟩ := wp_bd h1 (isHu_t h2).1
  obtain ⟨r1, _, _, r4⟩ := wp_bd h1 (isHu_t h3).1
  clear h1 h2 h3
  go_enter Try.func30, Try.ntmps30
  go_wp2
  go_region_held3 (fun W => W.cell? ⟨w.heap.size, 0, none⟩ = some (.int .i64 wx) ∧ W.cell? ⟨w.heap.size, 1, none⟩ = some (.int .i64 wy) ∧ W.cell? ⟨w.heap.size + 1, 0, none⟩ = some (.int .i64 bx) ∧ W.cell? ⟨w.heap.size + 1, 1, none⟩ = some (.int .i64 bY) ∧ W.cell? ⟨w.heap.size + 2, 0, none⟩ = some (.int .i64 cx) ∧ W.cell? ⟨w.heap.size + 2, 1, none⟩ = some (.int .i64 cy) ∧ Below w.heap.size w W ∧ w.heap.size + 3 ≤ W.heap.size)
    (first | (obtain ⟨k1, k2, k3, k4, k5, k6, kB, kz⟩ := ‹_ ∧ _›; exact ⟨cell_later hb k1, cell_later hb k2, cell_later hb k3, cell_later hb k4, cell_later hb k5, cell_later hb k6, bstep kB hb, bsize kz hb⟩) | (obtain ⟨k1, k2, k3, k4, k5, k6, kB, kz⟩ := ‹_ ∧ _›; exact ⟨k1, k2, k3, k4, k5, k6, kB, kz⟩) | (exact ⟨(by go_simp; done), (by go_simp; done), (by go_simp; done), (by go_simp; done), (by go_simp; done), (by go_simp; done), bwz, (by first | (simp; done) | (simp; omega) | omega)⟩))
     (first | (go_at_call 47; (with_reducible refine (impl_scalar _ _ bx bY p1 p4 _).mono ?_); rintro e w9 ⟨rfl, hb⟩; have hzz := hb.size; (try simp at hzz)) | (go_at_call 47; (with_reducible refine (impl_scalar _ _ cx cy r1 r4 _).mono ?_); rintro e w9 ⟨rfl, hb⟩; have hzz := hb.size; (try simp at hzz)))
  obtain ⟨k1, k2, k3, k4, k5, k6, kB, kz⟩ := ‹_ ∧ _›
  go_wp2
  all_goals (go_ret; exact ⟨ret_i (by unfold wwI; (repeat' split) <;> omega), kB⟩)
theorem wwI_sgn (wx wy ax ay bx bY : Int) : wwI wx wy ax ay bx bY = if (sgn (ax * wx + ay * wy - (bx * wx + bY * wy)) == -1) = true then 1 else if (sgn (ax * wx + ay * wy - (bx * wx + bY * wy)) == 1) = true then 2 else 0 := by
  unfold wwI sgn; (repeat' split) <;> simp_all <;> omega
set_option maxHeartbeats 1000000 in
theorem spec_l09Windward (wx wy bx bY hx hy l cx cy ix iy m : Int) (h1 : isWd wx wy = true) (h2 : isHu bx bY hx hy l = true) (h3 : isHu cx cy ix iy m = true) (w : World) :
    Calls Try.prog 36 #[.agg #[.int .i64 wx, .int .i64 wy], .agg #[.int .i64 bx, .int .i64 bY, .int .i64 hx, .int .i64 hy, .int .i64 l], .agg #[.int .i64 cx, .int .i64 cy, .int .i64 ix, .int .i64 iy, .int .i64 m]] w fun e w' => e = .returned (.int .i64 (wwI wx wy bx bY cx cy)) ∧ Below w.heap.size w w' := by
  obtain ⟨⟨p1, p2⟩, _, _, ⟨p3, p4⟩⟩ := wp_bd h1 (isHu_t h2).1
  obtain ⟨⟨r1, r2⟩, _, _, ⟨r3, r4⟩⟩ := wp_bd h1 (isHu_t h3).1
  have s1 : bx * wx + bY * wy ≤ 4000000000 := by
    obtain ⟨a1, a2, a3, a4, _⟩ := isWd_t h1
    obtain ⟨b1, b2, b3, b4⟩ := isPt_t (isHu_t h2).1
    have := mul_bd' 1000000 1000 1000000000 b1 b2 a1 a2 (by decide)
    have := mul_bd' 1000000 1000 1000000000 b3 b4 a3 a4 (by decide)
    omega
  have s2 : -4000000000 ≤ bx * wx + bY * wy := by
    obtain ⟨a1, a2, a3, a4, _⟩ := isWd_t h1
    obtain ⟨b1, b2, b3, b4⟩ := isPt_t (isHu_t h2).1
    have := mul_bd' 1000000 1000 1000000000 b1 b2 a1 a2 (by decide)
    have := mul_bd' 1000000 1000 1000000000 b3 b4 a3 a4 (by decide)
    omega
  have s3 : cx * wx + cy * wy ≤ 4000000000 := by
    obtain ⟨a1, a2, a3, a4, _⟩ := isWd_t h1
    obtain ⟨b1, b2, b3, b4⟩ := isPt_t (isHu_t h3).1
    have := mul_bd' 1000000 1000 1000000000 b1 b2 a1 a2 (by decide)
    have := mul_bd' 1000000 1000 1000000000 b3 b4 a3 a4 (by decide)
    omega
  have s4 : -4000000000 ≤ cx * wx + cy * wy := by
    obtain ⟨a1, a2, a3, a4, _⟩ := isWd_t h1
    obtain ⟨b1, b2, b3, b4⟩ := isPt_t (isHu_t h3).1
    have := mul_bd' 1000000 1000 1000000000 b1 b2 a1 a2 (by decide)
    have := mul_bd' 1000000 1000 1000000000 b3 b4 a3 a4 (by decide)
    omega
  clear h1 h2 h3
  go_enter Try.func36, Try.ntmps36
  go_wp2
  go_region_held3 (fun W => W.cell? ⟨w.heap.size, 0, none⟩ = some (.int .i64 wx) ∧ W.cell? ⟨w.heap.size, 1, none⟩ = some (.int .i64 wy) ∧ W.cell? ⟨w.heap.size + 1, 0, none⟩ = some (.int .i64 bx) ∧ W.cell? ⟨w.heap.size + 1, 1, none⟩ = some (.int .i64 bY) ∧ W.cell? ⟨w.heap.size + 2, 0, none⟩ = some (.int .i64 cx) ∧ W.cell? ⟨w.heap.size + 2, 1, none⟩ = some (.int .i64 cy) ∧ Below w.heap.size w W ∧ w.heap.size + 3 ≤ W.heap.size)
    (first | (obtain ⟨k1, k2, k3, k4, k5, k6, kB, kz⟩ := ‹_ ∧ _›; exact ⟨cell_later hb k1, cell_later hb k2, cell_later hb k3, cell_later hb k4, cell_later hb k5, cell_later hb k6, bstep kB hb, bsize kz hb⟩) | (obtain ⟨k1, k2, k3, k4, k5, k6, kB, kz⟩ := ‹_ ∧ _›; exact ⟨k1, k2, k3, k4, k5, k6, kB, kz⟩) | (exact ⟨(by go_simp; done), (by go_simp; done), (by go_simp; done), (by go_simp; done), (by go_simp; done), (by go_simp; done), bwz, (by first | (simp; done) | (simp; omega) | omega)⟩))
     (first | (go_at_call 57; (with_reducible refine (spec_l08Vector _ _ _).mono ?_); rintro e w9 ⟨rfl, hb⟩; have hzz := hb.size; (try simp at hzz)) | (go_at_call 59; (with_reducible refine (spec_l01Dot bx bY _ _ (bd_of p1 p2) (bd_of p3 p4) _).mono ?_); rintro e w9 ⟨rfl, hb⟩; have hzz := hb.size; (try simp at hzz)) | (go_at_call 59; (with_reducible refine (spec_l01Dot cx cy _ _ (bd_of r1 r2) (bd_of r3 r4) _).mono ?_); rintro e w9 ⟨rfl, hb⟩; have hzz := hb.size; (try simp at hzz)) | (go_at_call 55; (with_reducible refine (spec_l01Sign _ _).mono ?_); rintro e w9 ⟨rfl, rfl⟩))
  obtain ⟨k1, k2, k3, k4, k5, k6, kB, kz⟩ := ‹_ ∧ _›
  go_wp2
  all_goals (go_ret; exact ⟨ret_i (by rw [wwI_sgn]; simp [*]), kB⟩)
end Go.Proofs.Ytndlpoffpcpnkaa
