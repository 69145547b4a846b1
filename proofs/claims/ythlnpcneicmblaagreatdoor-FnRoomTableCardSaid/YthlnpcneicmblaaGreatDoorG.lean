/- Walks: hulls: clear astern, overlap, stern, gap, gain to windward. -/
import Derived.Test.YthlnpcneicmblaaGreatDoorC
import Derived.Deep.QuietTactic
import Derived.BigQuiet
namespace Go.Proofs.YthlnpcneicmblaaGreatDoor
open Go.RowKit

/-- How far the bow of b is ahead of that of a, times the length of the heading of a. -/
def ahd (ax ay hx hy bx bY : Int) : Int := (bx - ax) * hx + (bY - ay) * hy
/-- Clear astern. -/
def clr (hx hy l d : Int) : Bool := decide (d < 0 ∧ l * l * (hx * hx + hy * hy) < d * d)
def ovl (a b : Bool) : Int := sel a 1 0 + sel b 2 0
theorem ahd_bd {ax ay hx hy bx bY : Int} (h1 : isPt ax ay = true) (h2 : isHd hx hy = true) (h3 : isPt bx bY = true) : Bd ((bx - ax) * hx) ∧ Bd ((bY - ay) * hy) ∧ -8000000000000 ≤ ahd ax ay hx hy bx bY ∧ ahd ax ay hx hy bx bY ≤ 8000000000000 := by
 obtain ⟨a1, a2, a3, a4⟩ := isPt_t h1
 obtain ⟨b1, b2, b3, b4, _⟩ := isHd_t h2
 obtain ⟨c1, c2, c3, c4⟩ := isPt_t h3
 have k1 := mul_bd' (a := bx - ax) (b := hx) 2000000 2000000 4000000000000 (by omega) (by omega) b1 b2 (by decide)
 have k2 := mul_bd' (a := bY - ay) (b := hy) 2000000 2000000 4000000000000 (by omega) (by omega) b3 b4 (by decide)
 unfold ahd
 exact ⟨⟨by omega, by omega⟩, ⟨by omega, by omega⟩, by omega, by omega⟩
theorem sm_hd {x y : Int} (h : isHd x y = true) : Sm x ∧ Sm y := by
 obtain ⟨b1, b2, b3, b4, _⟩ := isHd_t h
 exact ⟨⟨by omega, by omega⟩, ⟨by omega, by omega⟩⟩
theorem ediv_bd {a b c : Int} (hb : 1 ≤ b) (hc : 0 ≤ c) (h1 : -c ≤ a) (h2 : a ≤ c) : -c ≤ a / b ∧ a / b ≤ c := by
 constructor
 ·rw [Int.le_ediv_iff_mul_le (by omega)]
  have := Int.mul_le_mul_of_nonneg_left hb hc
  have e : -c * b = -(c * b) := by grind
  rw [e]; omega
 ·have h3 : a / b < c + 1 := by
   rw [Int.ediv_lt_iff_lt_mul (by omega)]
   have := Int.mul_le_mul_of_nonneg_left hb (show 0 ≤ c + 1 by omega)
   omega
  omega

theorem impl_ahead (ax ay hx hy l bx bY ix iy m : Int) (h1 : isHu ax ay hx hy l = true) (h2 : isHu bx bY ix iy m = true) (w : World) :
 Calls Tryz.prog 112 #[.agg #[.int .i64 ax, .int .i64 ay, .int .i64 hx, .int .i64 hy, .int .i64 l], .agg #[.int .i64 bx, .int .i64 bY, .int .i64 ix, .int .i64 iy, .int .i64 m]] w fun e w' => e = .returned (.int .i64 (ahd ax ay hx hy bx bY)) ∧ Below w.heap.size w w' := by
 obtain ⟨⟨x1, x2⟩, ⟨y1, y2⟩, _⟩ := ahd_bd (isHu_t h1).1 (isHu_t h1).2.1 (isHu_t h2).1
 obtain ⟨a1, a2, a3, a4⟩ := isPt_t (isHu_t h1).1
 obtain ⟨c1, c2, c3, c4⟩ := isPt_t (isHu_t h2).1
 clear h1 h2
 go_enter Tryz.func112, Tryz.ntmps112
 go_wp2
 go_ret
 exact ⟨rfl, bwz⟩
theorem spec_l09Along (ax ay hx hy l bx bY ix iy m : Int) (h1 : isHu ax ay hx hy l = true) (h2 : isHu bx bY ix iy m = true) (w : World) :
 Calls Tryz.prog 116 #[.agg #[.int .i64 ax, .int .i64 ay, .int .i64 hx, .int .i64 hy, .int .i64 l], .agg #[.int .i64 bx, .int .i64 bY, .int .i64 ix, .int .i64 iy, .int .i64 m]] w fun e w' => e = .returned (.int .i64 (ahd ax ay hx hy bx bY)) ∧ Below w.heap.size w w' := by
 obtain ⟨x1, y1, _⟩ := ahd_bd (isHu_t h1).1 (isHu_t h1).2.1 (isHu_t h2).1
 obtain ⟨a1, a2⟩ := pt_sm (isHu_t h1).1
 obtain ⟨c1, c2⟩ := pt_sm (isHu_t h2).1
 clear h1 h2
 go_enter Tryz.func116, Tryz.ntmps116
 go_wp2
 go_region_held3 (fun W => W.cell? ⟨w.heap.size, 0, none⟩ = some (.int .i64 ax) ∧ W.cell? ⟨w.heap.size, 1, none⟩ = some (.int .i64 ay) ∧ W.cell? ⟨w.heap.size, 2, none⟩ = some (.int .i64 hx) ∧ W.cell? ⟨w.heap.size, 3, none⟩ = some (.int .i64 hy) ∧ W.cell? ⟨w.heap.size + 1, 0, none⟩ = some (.int .i64 bx) ∧ W.cell? ⟨w.heap.size + 1, 1, none⟩ = some (.int .i64 bY) ∧ Below w.heap.size w W ∧ w.heap.size + 2 ≤ W.heap.size)
  (first | (obtain ⟨k1, k2, k3, k4, k5, k6, kB, kz⟩ := ‹_ ∧ _›; exact ⟨cell_later hb k1, cell_later hb k2, cell_later hb k3, cell_later hb k4, cell_later hb k5, cell_later hb k6, bstep kB hb, bsize kz hb⟩) | (obtain ⟨k1, k2, k3, k4, k5, k6, kB, kz⟩ := ‹_ ∧ _›; exact ⟨k1, k2, k3, k4, k5, k6, kB, kz⟩) | (exact ⟨(by go_simp; done), (by go_simp; done), (by go_simp; done), (by go_simp; done), (by go_simp; done), (by go_simp; done), bwz, (by first | (simp; done) | (simp; omega) | omega)⟩))
   (first | (go_at_call 33; (with_reducible refine (spec_l01Minus _ _ _ _ c1 c2 a1 a2 _).mono ?_); rintro e w9 ⟨rfl, hb⟩; have hzz := hb.size; (try simp at hzz)) | (go_at_call 35; (with_reducible refine (spec_l01Dot _ _ _ _ x1 y1 _).mono ?_); rintro e w9 ⟨rfl, hb⟩; have hzz := hb.size; (try simp at hzz)))
 obtain ⟨k1, k2, k3, k4, k5, k6, kB, kz⟩ := ‹_ ∧ _›
 go_wp2
 go_ret
 exact ⟨rfl, kB⟩
theorem sq_zero (x y : Int) : sq 0 0 x y = x * x + y * y := by unfold sq; grind
set_option maxHeartbeats 1000000 in
theorem impl_clearAstern (ax ay hx hy l bx bY ix iy m : Int) (h1 : isHu ax ay hx hy l = true) (h2 : isHu bx bY ix iy m = true) (w : World) :
 Calls Tryz.prog 90 #[.agg #[.int .i64 ax, .int .i64 ay, .int .i64 hx, .int .i64 hy, .int .i64 l], .agg #[.int .i64 bx, .int .i64 bY, .int .i64 ix, .int .i64 iy, .int .i64 m]] w fun e w' => e = .returned (.bool (clr hx hy l (ahd ax ay hx hy bx bY))) ∧ Below w.heap.size w w' := by
 obtain ⟨_, _, d1, d2⟩ := ahd_bd (isHu_t h1).1 (isHu_t h1).2.1 (isHu_t h2).1
 obtain ⟨s1, s2⟩ := sm_hd (isHu_t h1).2.1
 obtain ⟨q1, q2, q3, q4, q5⟩ := hd_sq (isHu_t h1).2.1
 obtain ⟨_, _, l1, l2⟩ := isHu_t h1
 obtain ⟨m1, m2⟩ := mul_bd' (a := l) (b := l) 1000 1000 1000000 (by omega) (by omega) (by omega) (by omega) (by decide)
 have m0 : 0 ≤ l * l := mul_self_nonneg' l
 have s0 : Sm 0 := sm_of (by omega) (by omega)
 have hz := sq_zero hx hy
 have e0 : 0 ≤ sq 0 0 hx hy := by omega
 have e1 : sq 0 0 hx hy ≤ 8000000000000 := by omega
 have Hz := hide hz
 clear hz
 have n1 : 0 ≤ -ahd ax ay hx hy bx bY ∨ 0 ≤ ahd ax ay hx hy bx bY := by omega
 have n2 : -ahd ax ay hx hy bx bY ≤ 9223372036854775807 := by omega
 have n3 : l * l ≤ 9223372036854775807 := by omega
 have n4 : sq 0 0 hx hy ≤ 9223372036854775807 := by omega
 have w1 : IntKind.i64.wrap (-ahd ax ay hx hy bx bY) = -ahd ax ay hx hy bx bY := IntWalk.i64_in _ (by omega)
 have w2 : IntKind.i64.wrap (l * l) = l * l := IntWalk.i64_in _ (by omega)
 by_cases g : ahd ax ay hx hy bx bY < 0
 ·have n0 : 0 ≤ -ahd ax ay hx hy bx bY := by clear w1 w2; omega
  have hv : decide (0 < sgn (-ahd ax ay hx hy bx bY * -ahd ax ay hx hy bx bY - l * l * sq 0 0 hx hy)) = clr hx hy l (ahd ax ay hx hy bx bY) := by
   rw [Hz.out, Int.neg_mul_neg]
   unfold clr sgn
   clear w1 w2 n1 n2 n3 n4
   generalize ahd ax ay hx hy bx bY * ahd ax ay hx hy bx bY = dd at *
   generalize l * l * (hx * hx + hy * hy) = ll at *
   rw [Bool.eq_iff_iff]; simp only [decide_eq_true_eq]
   (repeat' split) <;> omega
  have Hv := hide hv
  clear hv n1
  go_enter Tryz.func90, Tryz.ntmps90
  go_wp2_with (go_at_call 112; (with_reducible refine (impl_ahead _ _ _ _ _ _ _ _ _ _ h1 h2 _).mono ?_); rintro e w9 ⟨rfl, hb⟩; obtain ⟨hc, hf⟩ := bcell hb; have hz := hb.size; have z0 : w.heap.size < w9.heap.size := (by first | omega | (simp at hz; omega)); have z1 : w.heap.size + 1 < w9.heap.size := (by first | omega | (simp at hz; omega)))
  go_region_held3 (fun W => W.cell? ⟨w.heap.size, 0, none⟩ = some (.int .i64 ax) ∧ W.cell? ⟨w.heap.size, 1, none⟩ = some (.int .i64 ay) ∧ W.cell? ⟨w.heap.size, 2, none⟩ = some (.int .i64 hx) ∧ W.cell? ⟨w.heap.size, 3, none⟩ = some (.int .i64 hy) ∧ W.cell? ⟨w.heap.size, 4, none⟩ = some (.int .i64 l) ∧ Below w.heap.size w W ∧ w.heap.size + 2 ≤ W.heap.size)
  (first | (obtain ⟨k1, k2, k3, k4, k5, kB, kz⟩ := ‹_ ∧ _›; exact ⟨cell_later hb k1, cell_later hb k2, cell_later hb k3, cell_later hb k4, cell_later hb k5, bstep kB hb, bsize kz hb⟩) | (obtain ⟨k1, k2, k3, k4, k5, kB, kz⟩ := ‹_ ∧ _›; exact ⟨k1, k2, k3, k4, k5, kB, kz⟩) | (exact ⟨(by go_simp; done), (by go_simp; done), (by go_simp; done), (by go_simp; done), (by go_simp; done), bwz, (by first | (simp; done) | (simp; omega) | omega)⟩))
   (first | (go_at_call 91; (with_reducible refine (impl_squareDistance _ _ _ _ s0 s0 s1 s2 _).mono ?_); rintro e w9 ⟨rfl, hb⟩; have hzz := hb.size; (try simp at hzz)) | (go_at_call 113; (with_reducible refine (impl_compareProducts _ _ _ _ n0 n2 n0 n2 m0 n3 e0 n4 _).mono ?_); rintro e w9 ⟨rfl, rfl⟩))
  clear w1 w2
  obtain ⟨k1, k2, k3, k4, k5, kB, kz⟩ := ‹_ ∧ _›
  go_wp2
  go_ret
  exact ⟨ret_b Hv.out, kB⟩
 ·have gf : decide (ahd ax ay hx hy bx bY < 0) = false := by simp; clear w1 w2; omega
  have hv : false = clr hx hy l (ahd ax ay hx hy bx bY) := by
   unfold clr; simp [g]
  have Hv := hide hv
  clear hv n1 w1 w2
  go_enter Tryz.func90, Tryz.ntmps90
  go_wp2_with (go_at_call 112; (with_reducible refine (impl_ahead _ _ _ _ _ _ _ _ _ _ h1 h2 _).mono ?_); rintro e w9 ⟨rfl, hb⟩; obtain ⟨hc, hf⟩ := bcell hb; have hz := hb.size; have z0 : w.heap.size < w9.heap.size := (by first | omega | (simp at hz; omega)); have z1 : w.heap.size + 1 < w9.heap.size := (by first | omega | (simp at hz; omega)))
  go_quiet (fail)
  go_wp2
  go_ret
  exact ⟨ret_b Hv.out, bwz⟩
set_option maxHeartbeats 1000000 in
theorem spec_l09Clear (ax ay hx hy l bx bY ix iy m : Int) (h1 : isHu ax ay hx hy l = true) (h2 : isHu bx bY ix iy m = true) (w : World) :
 Calls Tryz.prog 101 #[.agg #[.int .i64 ax, .int .i64 ay, .int .i64 hx, .int .i64 hy, .int .i64 l], .agg #[.int .i64 bx, .int .i64 bY, .int .i64 ix, .int .i64 iy, .int .i64 m]] w fun e w' => e = .returned (.bool (clr hx hy l (ahd ax ay hx hy bx bY))) ∧ Below w.heap.size w w' := by
 obtain ⟨_, _, d1, d2⟩ := ahd_bd (isHu_t h1).1 (isHu_t h1).2.1 (isHu_t h2).1
 obtain ⟨q1, q2, q3, q4, q5⟩ := hd_sq (isHu_t h1).2.1
 obtain ⟨_, _, l1, l2⟩ := isHu_t h1
 have n1 : 0 ≤ l := by omega
 have n2 : l ≤ 10000 := by omega
 have n3 : 0 ≤ hx * hx + hy * hy := by omega
 have n4 : hx * hx + hy * hy ≤ 8000000000000 := by omega
 have b1 : Bd (hx * hx) := bd_of (by omega) (by omega)
 have b2 : Bd (hy * hy) := bd_of (by omega) (by omega)
 have w1 : IntKind.i64.wrap (-ahd ax ay hx hy bx bY) = -ahd ax ay hx hy bx bY := IntWalk.i64_in _ (by omega)
 by_cases g : ahd ax ay hx hy bx bY < 0
 ·have hv : decide (rt (l * l * (hx * hx + hy * hy)) < -ahd ax ay hx hy bx bY) = clr hx hy l (ahd ax ay hx hy bx bY) := by
   clear w1
   have h0 : 0 ≤ l * l * (hx * hx + hy * hy) := Int.mul_nonneg (mul_self_nonneg' l) n3
   have h := abs_le_rt (c := ahd ax ay hx hy bx bY) h0
   have ha : absI (ahd ax ay hx hy bx bY) = -ahd ax ay hx hy bx bY := by unfold absI; rw [if_pos g]
   rw [ha] at h
   unfold clr
   rw [Bool.eq_iff_iff]; simp only [decide_eq_true_eq]
   constructor
   ·intro k; exact ⟨g, by have := fun t => h.2 t; omega⟩
   ·intro k; have := fun t => h.1 t; omega
  have Hv := hide hv
  clear hv
  go_enter Tryz.func101, Tryz.ntmps101
  go_wp2_with (go_at_call 116; (with_reducible refine (spec_l09Along _ _ _ _ _ _ _ _ _ _ h1 h2 _).mono ?_); rintro e w9 ⟨rfl, hb⟩; obtain ⟨hc, hf⟩ := bcell hb; have hz := hb.size; have z0 : w.heap.size < w9.heap.size := (by first | omega | (simp at hz; omega)); have z1 : w.heap.size + 1 < w9.heap.size := (by first | omega | (simp at hz; omega)))
  go_region_held3 (fun W => W.cell? ⟨w.heap.size, 0, none⟩ = some (.int .i64 ax) ∧ W.cell? ⟨w.heap.size, 1, none⟩ = some (.int .i64 ay) ∧ W.cell? ⟨w.heap.size, 2, none⟩ = some (.int .i64 hx) ∧ W.cell? ⟨w.heap.size, 3, none⟩ = some (.int .i64 hy) ∧ W.cell? ⟨w.heap.size, 4, none⟩ = some (.int .i64 l) ∧ Below w.heap.size w W ∧ w.heap.size + 2 ≤ W.heap.size)
  (first | (obtain ⟨k1, k2, k3, k4, k5, kB, kz⟩ := ‹_ ∧ _›; exact ⟨cell_later hb k1, cell_later hb k2, cell_later hb k3, cell_later hb k4, cell_later hb k5, bstep kB hb, bsize kz hb⟩) | (obtain ⟨k1, k2, k3, k4, k5, kB, kz⟩ := ‹_ ∧ _›; exact ⟨k1, k2, k3, k4, k5, kB, kz⟩) | (exact ⟨(by go_simp; done), (by go_simp; done), (by go_simp; done), (by go_simp; done), (by go_simp; done), bwz, (by first | (simp; done) | (simp; omega) | omega)⟩))
   (first | (go_at_call 35; (with_reducible refine (spec_l01Dot _ _ _ _ b1 b2 _).mono ?_); rintro e w9 ⟨rfl, hb⟩; have hzz := hb.size; (try simp at hzz)) | (go_at_call 117; (with_reducible refine (spec_l02RootOf _ _ n1 n2 n3 n4 _).mono ?_); rintro e w9 ⟨rfl, rfl⟩))
  clear w1
  obtain ⟨k1, k2, k3, k4, k5, kB, kz⟩ := ‹_ ∧ _›
  go_wp2
  go_ret
  exact ⟨ret_b Hv.out, kB⟩
 ·have gf : decide (ahd ax ay hx hy bx bY < 0) = false := by simp; clear w1; omega
  have hv : false = clr hx hy l (ahd ax ay hx hy bx bY) := by
   unfold clr; simp [g]
  have Hv := hide hv
  clear hv w1
  go_enter Tryz.func101, Tryz.ntmps101
  go_wp2_with (go_at_call 116; (with_reducible refine (spec_l09Along _ _ _ _ _ _ _ _ _ _ h1 h2 _).mono ?_); rintro e w9 ⟨rfl, hb⟩; obtain ⟨hc, hf⟩ := bcell hb; have hz := hb.size; have z0 : w.heap.size < w9.heap.size := (by first | omega | (simp at hz; omega)); have z1 : w.heap.size + 1 < w9.heap.size := (by first | omega | (simp at hz; omega)))
  go_quiet (fail)
  go_wp2
  go_ret
  exact ⟨ret_b Hv.out, bwz⟩
/-- The relation of two hulls. -/
def ovlH (ax ay hx hy l bx bY ix iy m : Int) : Int := ovl (clr hx hy l (ahd ax ay hx hy bx bY)) (clr ix iy m (ahd bx bY ix iy ax ay))
set_option maxHeartbeats 1000000 in
theorem impl_overlapOf (ax ay hx hy l bx bY ix iy m : Int) (h1 : isHu ax ay hx hy l = true) (h2 : isHu bx bY ix iy m = true) (w : World) :
 Calls Tryz.prog 64 #[.agg #[.int .i64 ax, .int .i64 ay, .int .i64 hx, .int .i64 hy, .int .i64 l], .agg #[.int .i64 bx, .int .i64 bY, .int .i64 ix, .int .i64 iy, .int .i64 m]] w fun e w' => e = .returned (.int .i64 (ovlH ax ay hx hy l bx bY ix iy m)) ∧ Below w.heap.size w w' := by
 rcases b2 (clr hx hy l (ahd ax ay hx hy bx bY)) with g1 | g1
 all_goals rcases b2 (clr ix iy m (ahd bx bY ix iy ax ay)) with g2 | g2
 all_goals
  go_enter Tryz.func64, Tryz.ntmps64
  go_wp2_with (first | (go_at_call 90; (with_reducible refine (impl_clearAstern _ _ _ _ _ _ _ _ _ _ h1 h2 _).mono ?_); rintro e w9 ⟨rfl, hb⟩; obtain ⟨hc, hf⟩ := bcell hb; have hz := hb.size; have z0 : w.heap.size < w9.heap.size := (by first | omega | (simp at hz; omega)); have z1 : w.heap.size + 1 < w9.heap.size := (by first | omega | (simp at hz; omega))) | (go_at_call 90; (with_reducible refine (impl_clearAstern _ _ _ _ _ _ _ _ _ _ h2 h1 _).mono ?_); rintro e w9 ⟨rfl, hb⟩; obtain ⟨hc, hf⟩ := bcell hb; have hz := hb.size; have z0 : w.heap.size < w9.heap.size := (by first | omega | (simp at hz; omega)); have z1 : w.heap.size + 1 < w9.heap.size := (by first | omega | (simp at hz; omega))))
  go_ret
  exact ⟨by simp [ovlH, ovl, sel, *], bwz⟩
set_option maxHeartbeats 1000000 in
theorem spec_l09Overlap (ax ay hx hy l bx bY ix iy m : Int) (h1 : isHu ax ay hx hy l = true) (h2 : isHu bx bY ix iy m = true) (w : World) :
 Calls Tryz.prog 71 #[.agg #[.int .i64 ax, .int .i64 ay, .int .i64 hx, .int .i64 hy, .int .i64 l], .agg #[.int .i64 bx, .int .i64 bY, .int .i64 ix, .int .i64 iy, .int .i64 m]] w fun e w' => e = .returned (.int .i64 (ovlH ax ay hx hy l bx bY ix iy m)) ∧ Below w.heap.size w w' := by
 rcases b2 (clr hx hy l (ahd ax ay hx hy bx bY)) with g1 | g1
 all_goals rcases b2 (clr ix iy m (ahd bx bY ix iy ax ay)) with g2 | g2
 all_goals
  go_enter Tryz.func71, Tryz.ntmps71
  go_wp2_with (first | (go_at_call 101; (with_reducible refine (spec_l09Clear _ _ _ _ _ _ _ _ _ _ h1 h2 _).mono ?_); rintro e w9 ⟨rfl, hb⟩; obtain ⟨hc, hf⟩ := bcell hb; have hz := hb.size; have z0 : w.heap.size < w9.heap.size := (by first | omega | (simp at hz; omega)); have z1 : w.heap.size + 1 < w9.heap.size := (by first | omega | (simp at hz; omega))) | (go_at_call 101; (with_reducible refine (spec_l09Clear _ _ _ _ _ _ _ _ _ _ h2 h1 _).mono ?_); rintro e w9 ⟨rfl, hb⟩; obtain ⟨hc, hf⟩ := bcell hb; have hz := hb.size; have z0 : w.heap.size < w9.heap.size := (by first | omega | (simp at hz; omega)); have z1 : w.heap.size + 1 < w9.heap.size := (by first | omega | (simp at hz; omega))))
  go_ret
  exact ⟨by simp [ovlH, ovl, sel, *], bwz⟩
end Go.Proofs.YthlnpcneicmblaaGreatDoor
/- Walks: sterns, gaps, gains to windward. -/
namespace Go.Proofs.YthlnpcneicmblaaGreatDoor
open Go.RowKit

/-- A coordinate of the stern. -/
def stn (b h l n : Int) : Int := b - h * l / n
theorem rt_hd {x y : Int} (h : isHd x y = true) : 1 ≤ rt (x * x + y * y) ∧ rt (x * x + y * y) ≤ 3000000 := by
 obtain ⟨q1, q2, q3, q4, q5⟩ := hd_sq h
 exact ⟨rt_pos q5, rt_le (by omega) (by omega) (by omega)⟩
theorem hl_bd {x l : Int} (h1 : -2000000 ≤ x) (h2 : x ≤ 2000000) (h3 : 1 ≤ l) (h4 : l ≤ 1000) : -2000000000 ≤ x * l ∧ x * l ≤ 2000000000 := mul_bd' 2000000 1000 2000000000 h1 h2 (by omega) h4 (by decide)
/-- The gap behind a hull. -/
def gapI (ax ay hx hy l bx bY : Int) : Int := -ahd ax ay hx hy bx bY / rt (hx * hx + hy * hy) - l
theorem gap_bd {ax ay hx hy l bx bY ix iy m : Int} (h1 : isHu ax ay hx hy l = true) (h2 : isHu bx bY ix iy m = true) :
 -8000000000000 ≤ -ahd ax ay hx hy bx bY ∧ -ahd ax ay hx hy bx bY ≤ 8000000000000 ∧ -8000000000000 ≤ -ahd ax ay hx hy bx bY / rt (hx * hx + hy * hy) ∧ -ahd ax ay hx hy bx bY / rt (hx * hx + hy * hy) ≤ 8000000000000 := by
 obtain ⟨_, _, d1, d2⟩ := ahd_bd (isHu_t h1).1 (isHu_t h1).2.1 (isHu_t h2).1
 have hr := (rt_hd (isHu_t h1).2.1).1
 obtain ⟨q1, q2⟩ := ediv_bd (a := -ahd ax ay hx hy bx bY) (c := 8000000000000) hr (by omega) (by omega) (by omega)
 exact ⟨by omega, by omega, q1, q2⟩
end Go.Proofs.YthlnpcneicmblaaGreatDoor
