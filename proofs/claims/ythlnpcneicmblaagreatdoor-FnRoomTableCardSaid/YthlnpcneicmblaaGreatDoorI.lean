/- Walks: segments: within a distance, on a segment, crossing, meeting. -/
import Derived.Test.YthlnpcneicmblaaGreatDoorC
import Derived.Deep.QuietTactic
import Derived.BigQuiet
namespace Go.Proofs.YthlnpcneicmblaaGreatDoor
open Go.RowKit

theorem ret_bi {a b : Bool} {c : Int} (h : a = b) : Ending.returned (.tuple #[.bool a, .int .i64 c]) = .returned (.tuple #[.bool b, .int .i64 c]) := by rw [h]
def isSg (ax ay bx bY : Int) : Bool := isPt ax ay && isPt bx bY && !(ax == bx && ay == bY)
theorem isSg_t {ax ay bx bY : Int} (h : isSg ax ay bx bY = true) : isPt ax ay = true ∧ isPt bx bY = true ∧ 1 ≤ sq ax ay bx bY := by
 simp only [isSg, Bool.and_eq_true] at h
 refine ⟨h.1.1, h.1.2, ?_⟩
 have hn : ¬ (ax = bx ∧ ay = bY) := by have := h.2; simp at this; omega
 have h1 := mul_self_nonneg' (ax - bx)
 have h2 := mul_self_nonneg' (ay - bY)
 unfold sq
 rcases Classical.em (ax = bx) with h3 | h3
 ·have h4 : ay - bY ≠ 0 := by intro k; exact hn ⟨h3, by omega⟩
  have : 1 ≤ (ay - bY) * (ay - bY) := by
   rcases Int.lt_or_gt_of_ne h4 with k | k
   ·have := Int.mul_pos_of_neg_of_neg k k; omega
   ·have := Int.mul_pos k k; omega
  omega
 ·have h4 : ax - bx ≠ 0 := by omega
  have : 1 ≤ (ax - bx) * (ax - bx) := by
   rcases Int.lt_or_gt_of_ne h4 with k | k
   ·have := Int.mul_pos_of_neg_of_neg k k; omega
   ·have := Int.mul_pos k k; omega
  omega
theorem pt_bd3 {ax ay bx bY px py : Int} (h1 : isPt ax ay = true) (h2 : isPt bx bY = true) (h3 : isPt px py = true) :
 -8000000000000 ≤ farI ax ay bx bY px py ∧ farI ax ay bx bY px py ≤ 8000000000000 ∧ -8000000000000 ≤ crs ax ay bx bY px py ∧ crs ax ay bx bY px py ≤ 8000000000000 := by
 obtain ⟨a1, a2, a3, a4⟩ := isPt_t h1
 obtain ⟨b1, b2, b3, b4⟩ := isPt_t h2
 obtain ⟨c1, c2, c3, c4⟩ := isPt_t h3
 have k1 := mul_bd' (a := px - ax) (b := bx - ax) 2000000 2000000 4000000000000 (by omega) (by omega) (by omega) (by omega) (by decide)
 have k2 := mul_bd' (a := py - ay) (b := bY - ay) 2000000 2000000 4000000000000 (by omega) (by omega) (by omega) (by omega) (by decide)
 have k3 := mul_bd' (a := bx - ax) (b := py - ay) 2000000 2000000 4000000000000 (by omega) (by omega) (by omega) (by omega) (by decide)
 have k4 := mul_bd' (a := bY - ay) (b := px - ax) 2000000 2000000 4000000000000 (by omega) (by omega) (by omega) (by omega) (by decide)
 unfold farI crs
 omega

theorem impl_IsSegment (ax ay bx bY : Int) (w : World) :
 Calls Tryz.prog 104 #[.agg #[.int .i64 ax, .int .i64 ay, .int .i64 bx, .int .i64 bY]] w fun e w' => e = .returned (.bool (isSg ax ay bx bY)) ∧ Below w.heap.size w w' := by
 go_enter Tryz.func104, Tryz.ntmps104
 go_wp2_with (go_at_call 77; (with_reducible refine (impl_IsPoint _ _ _).mono ?_); rintro e w9 ⟨rfl, hb⟩; obtain ⟨hc, hf⟩ := bcell hb; have hz := hb.size; have z0 : w.heap.size < w9.heap.size := (by first | omega | (simp at hz; omega)))
 all_goals (go_ret; exact ⟨by simp_all [isSg], bwz⟩)
theorem impl_along (ax ay bx bY px py : Int) (h1 : Sm ax) (h2 : Sm ay) (h3 : Sm bx) (h4 : Sm bY) (h5 : Sm px) (h6 : Sm py) (w : World) :
 Calls Tryz.prog 119 #[.agg #[.int .i64 ax, .int .i64 ay, .int .i64 bx, .int .i64 bY], .agg #[.int .i64 px, .int .i64 py]] w fun e w' => e = .returned (.tuple #[.int .i64 (farI ax ay bx bY px py), .int .i64 (sq ax ay bx bY)]) ∧ Below w.heap.size w w' := by
 obtain ⟨x1, x2⟩ := sm_mul h5 h1 h3 h1
 obtain ⟨y1, y2⟩ := sm_mul h6 h2 h4 h2
 have g1 := hide h1
 have g2 := hide h2
 have g3 := hide h3
 have g4 := hide h4
 obtain ⟨a1, a2⟩ := h1
 obtain ⟨b1, b2⟩ := h2
 obtain ⟨c1, c2⟩ := h3
 obtain ⟨d1, d2⟩ := h4
 obtain ⟨e1, e2⟩ := h5
 obtain ⟨f1, f2⟩ := h6
 have we1 := hide (show IntKind.i64.wrap (px - ax) = px - ax from IntWalk.i64_in _ (by omega)); have we2 := hide (show IntKind.i64.wrap (bx - ax) = bx - ax from IntWalk.i64_in _ (by omega)); have we3 := hide (show IntKind.i64.wrap (py - ay) = py - ay from IntWalk.i64_in _ (by omega)); have we4 := hide (show IntKind.i64.wrap (bY - ay) = bY - ay from IntWalk.i64_in _ (by omega)); have we5 := hide (show IntKind.i64.wrap ((px - ax) * (bx - ax)) = (px - ax) * (bx - ax) from IntWalk.i64_in _ (by omega)); have we6 := hide (show IntKind.i64.wrap ((py - ay) * (bY - ay)) = (py - ay) * (bY - ay) from IntWalk.i64_in _ (by omega)); have we7 := hide (show IntKind.i64.wrap ((px - ax) * (bx - ax) + (py - ay) * (bY - ay)) = (px - ax) * (bx - ax) + (py - ay) * (bY - ay) from IntWalk.i64_in _ (by omega))
 go_enter Tryz.func119, Tryz.ntmps119
 go_wp2
 have wf1 := we1.out; have wf2 := we2.out; have wf3 := we3.out; have wf4 := we4.out; have wf5 := we5.out; have wf6 := we6.out; have wf7 := we7.out
 go_region_held3 (fun W => W.cell? ⟨w.heap.size, 0, none⟩ = some (.int .i64 ax) ∧ W.cell? ⟨w.heap.size, 1, none⟩ = some (.int .i64 ay) ∧ W.cell? ⟨w.heap.size, 2, none⟩ = some (.int .i64 bx) ∧ W.cell? ⟨w.heap.size, 3, none⟩ = some (.int .i64 bY) ∧ W.cell? ⟨w.heap.size + 1, 0, none⟩ = some (.int .i64 px) ∧ W.cell? ⟨w.heap.size + 1, 1, none⟩ = some (.int .i64 py) ∧ Below w.heap.size w W ∧ w.heap.size + 2 ≤ W.heap.size)
  (first | (obtain ⟨k1, k2, k3, k4, k5, k6, kB, kz⟩ := ‹_ ∧ _›; exact ⟨cell_later hb k1, cell_later hb k2, cell_later hb k3, cell_later hb k4, cell_later hb k5, cell_later hb k6, bstep kB hb, bsize kz hb⟩) | (obtain ⟨k1, k2, k3, k4, k5, k6, kB, kz⟩ := ‹_ ∧ _›; exact ⟨k1, k2, k3, k4, k5, k6, kB, kz⟩) | (exact ⟨(by go_simp; done), (by go_simp; done), (by go_simp; done), (by go_simp; done), (by go_simp; done), (by go_simp; done), bwz, (by first | (simp; done) | (simp; omega) | omega)⟩))
   (first | (go_at_call 91; (with_reducible refine (impl_squareDistance _ _ _ _ g1.out g2.out g3.out g4.out _).mono ?_); rintro e w9 ⟨rfl, hb⟩; have hzz := hb.size; (try simp at hzz)))
 clear wf1 wf2 wf3 wf4 wf5 wf6 wf7
 obtain ⟨k1, k2, k3, k4, k5, k6, kB, kz⟩ := ‹_ ∧ _›
 go_wp2
 go_ret2
 exact ⟨rfl, kB⟩
set_option maxHeartbeats 2000000 in
theorem impl_WithinDistance_ok (ax ay bx bY px py d : Int) (g1 : isSg ax ay bx bY = true) (g2 : isPt px py = true) (g3 : inB d 0 10000 = true) (w : World) :
 Calls Tryz.prog 110 #[.agg #[.int .i64 ax, .int .i64 ay, .int .i64 bx, .int .i64 bY], .agg #[.int .i64 px, .int .i64 py], .int .i64 d] w fun e w' => e = .returned (.tuple #[.bool (wdB ax ay bx bY px py d), .int .i64 0]) ∧ Below w.heap.size w w' := by
 obtain ⟨ha, hb, m1⟩ := isSg_t g1
 obtain ⟨s1, s2⟩ := pt_sm ha
 obtain ⟨s3, s4⟩ := pt_sm hb
 obtain ⟨s5, s6⟩ := pt_sm g2
 obtain ⟨d0, d1⟩ := inB_t g3
 obtain ⟨dd0, dd1⟩ := nn_bd 10000 10000 100000000 d0 d1 d0 d1 (by decide)
 obtain ⟨f0, f1, c0, c1⟩ := pt_bd3 ha hb g2
 have m2 := (sq_pt ha hb).2
 have m0 : 0 ≤ sq ax ay bx bY := by omega
 clear ha hb
 by_cases k1 : farI ax ay bx bY px py ≤ 0
 ·have hv := hide (show decide (sq ax ay px py ≤ d * d) = wdB ax ay bx bY px py d by unfold wdB; rw [if_pos k1])
  go_enter Tryz.func110, Tryz.ntmps110
  go_wp2_with (first | (go_at_call 104; (with_reducible refine (impl_IsSegment _ _ _ _ _).mono ?_); rintro e w9 ⟨rfl, hb⟩; obtain ⟨hc, hf⟩ := bcell hb; have hz := hb.size; have z0 : w.heap.size < w9.heap.size := (by first | omega | (simp at hz; omega)); have z1 : w.heap.size + 1 < w9.heap.size := (by first | omega | (simp at hz; omega))) | (go_at_call 77; (with_reducible refine (impl_IsPoint _ _ _).mono ?_); rintro e w9 ⟨rfl, hb⟩; obtain ⟨hc, hf⟩ := bcell hb; have hz := hb.size; have z0 : w.heap.size < w9.heap.size := (by first | omega | (simp at hz; omega)); have z1 : w.heap.size + 1 < w9.heap.size := (by first | omega | (simp at hz; omega))) | (go_at_call 41; (with_reducible refine (impl_within _ _ _ _).mono ?_); rintro e w9 ⟨rfl, rfl⟩) | (go_at_call 119; (with_reducible refine (impl_along _ _ _ _ _ _ s1 s2 s3 s4 s5 s6 _).mono ?_); rintro e w9 ⟨rfl, hb⟩; obtain ⟨hc, hf⟩ := bcell hb; have hz := hb.size; have z0 : w.heap.size < w9.heap.size := (by first | omega | (simp at hz; omega)); have z1 : w.heap.size + 1 < w9.heap.size := (by first | omega | (simp at hz; omega))) | (go_at_call 91; (with_reducible refine (impl_squareDistance _ _ _ _ s1 s2 s5 s6 _).mono ?_); rintro e w9 ⟨rfl, hb⟩; obtain ⟨hc, hf⟩ := bcell hb; have hz := hb.size; have z0 : w.heap.size < w9.heap.size := (by first | omega | (simp at hz; omega)); have z1 : w.heap.size + 1 < w9.heap.size := (by first | omega | (simp at hz; omega))))
  go_ret2
  exact ⟨ret_bi hv.out, bwz⟩
 by_cases k2 : sq ax ay bx bY ≤ farI ax ay bx bY px py
 ·have hv := hide (show decide (sq bx bY px py ≤ d * d) = wdB ax ay bx bY px py d by unfold wdB; rw [if_neg k1, if_pos k2])
  go_enter Tryz.func110, Tryz.ntmps110
  go_wp2_with (first | (go_at_call 104; (with_reducible refine (impl_IsSegment _ _ _ _ _).mono ?_); rintro e w9 ⟨rfl, hb⟩; obtain ⟨hc, hf⟩ := bcell hb; have hz := hb.size; have z0 : w.heap.size < w9.heap.size := (by first | omega | (simp at hz; omega)); have z1 : w.heap.size + 1 < w9.heap.size := (by first | omega | (simp at hz; omega))) | (go_at_call 77; (with_reducible refine (impl_IsPoint _ _ _).mono ?_); rintro e w9 ⟨rfl, hb⟩; obtain ⟨hc, hf⟩ := bcell hb; have hz := hb.size; have z0 : w.heap.size < w9.heap.size := (by first | omega | (simp at hz; omega)); have z1 : w.heap.size + 1 < w9.heap.size := (by first | omega | (simp at hz; omega))) | (go_at_call 41; (with_reducible refine (impl_within _ _ _ _).mono ?_); rintro e w9 ⟨rfl, rfl⟩) | (go_at_call 119; (with_reducible refine (impl_along _ _ _ _ _ _ s1 s2 s3 s4 s5 s6 _).mono ?_); rintro e w9 ⟨rfl, hb⟩; obtain ⟨hc, hf⟩ := bcell hb; have hz := hb.size; have z0 : w.heap.size < w9.heap.size := (by first | omega | (simp at hz; omega)); have z1 : w.heap.size + 1 < w9.heap.size := (by first | omega | (simp at hz; omega))) | (go_at_call 91; (with_reducible refine (impl_squareDistance _ _ _ _ s3 s4 s5 s6 _).mono ?_); rintro e w9 ⟨rfl, hb⟩; obtain ⟨hc, hf⟩ := bcell hb; have hz := hb.size; have z0 : w.heap.size < w9.heap.size := (by first | omega | (simp at hz; omega)); have z1 : w.heap.size + 1 < w9.heap.size := (by first | omega | (simp at hz; omega))))
  go_ret2
  exact ⟨ret_bi hv.out, bwz⟩
 have n1 : sq ax ay bx bY ≤ 9223372036854775807 := by omega
 have n2 : d * d ≤ 9223372036854775807 := by omega
 have n3 : crs ax ay bx bY px py ≤ 9223372036854775807 := by omega
 have n4 : -crs ax ay bx bY px py ≤ 9223372036854775807 := by omega
 rcases Int.lt_or_le (crs ax ay bx bY px py) 0 with k3 | k3
 ·have n0 : 0 ≤ -crs ax ay bx bY px py := by omega
  have hv := hide (show decide (sgn (-crs ax ay bx bY px py * -crs ax ay bx bY px py - d * d * sq ax ay bx bY) ≤ 0) = wdB ax ay bx bY px py d by
   unfold wdB sgn
   rw [if_neg k1, if_neg k2, Int.neg_mul_neg]
   generalize crs ax ay bx bY px py * crs ax ay bx bY px py = cc
   generalize d * d * sq ax ay bx bY = ll
   rw [Bool.eq_iff_iff]; simp only [decide_eq_true_eq]
   (repeat' split) <;> omega)
  go_enter Tryz.func110, Tryz.ntmps110
  go_wp2_with (first | (go_at_call 104; (with_reducible refine (impl_IsSegment _ _ _ _ _).mono ?_); rintro e w9 ⟨rfl, hb⟩; obtain ⟨hc, hf⟩ := bcell hb; have hz := hb.size; have z0 : w.heap.size < w9.heap.size := (by first | omega | (simp at hz; omega)); have z1 : w.heap.size + 1 < w9.heap.size := (by first | omega | (simp at hz; omega))) | (go_at_call 77; (with_reducible refine (impl_IsPoint _ _ _).mono ?_); rintro e w9 ⟨rfl, hb⟩; obtain ⟨hc, hf⟩ := bcell hb; have hz := hb.size; have z0 : w.heap.size < w9.heap.size := (by first | omega | (simp at hz; omega)); have z1 : w.heap.size + 1 < w9.heap.size := (by first | omega | (simp at hz; omega))) | (go_at_call 41; (with_reducible refine (impl_within _ _ _ _).mono ?_); rintro e w9 ⟨rfl, rfl⟩) | (go_at_call 119; (with_reducible refine (impl_along _ _ _ _ _ _ s1 s2 s3 s4 s5 s6 _).mono ?_); rintro e w9 ⟨rfl, hb⟩; obtain ⟨hc, hf⟩ := bcell hb; have hz := hb.size; have z0 : w.heap.size < w9.heap.size := (by first | omega | (simp at hz; omega)); have z1 : w.heap.size + 1 < w9.heap.size := (by first | omega | (simp at hz; omega))) | (go_at_call 120; (with_reducible refine (impl_cross _ _ _ _ _ _ s1 s2 s3 s4 s5 s6 _).mono ?_); rintro e w9 ⟨rfl, hb⟩; obtain ⟨hc, hf⟩ := bcell hb; have hz := hb.size; have z0 : w.heap.size < w9.heap.size := (by first | omega | (simp at hz; omega)); have z1 : w.heap.size + 1 < w9.heap.size := (by first | omega | (simp at hz; omega))) | (go_at_call 113; (with_reducible refine (impl_compareProducts _ _ _ _ n0 n4 n0 n4 dd0 n2 m0 n1 _).mono ?_); rintro e w9 ⟨rfl, rfl⟩))
  go_ret2
  exact ⟨ret_bi hv.out, bwz⟩
 ·have hv := hide (show decide (sgn (crs ax ay bx bY px py * crs ax ay bx bY px py - d * d * sq ax ay bx bY) ≤ 0) = wdB ax ay bx bY px py d by
   unfold wdB sgn
   rw [if_neg k1, if_neg k2]
   generalize crs ax ay bx bY px py * crs ax ay bx bY px py = cc
   generalize d * d * sq ax ay bx bY = ll
   rw [Bool.eq_iff_iff]; simp only [decide_eq_true_eq]
   (repeat' split) <;> omega)
  go_enter Tryz.func110, Tryz.ntmps110
  go_wp2_with (first | (go_at_call 104; (with_reducible refine (impl_IsSegment _ _ _ _ _).mono ?_); rintro e w9 ⟨rfl, hb⟩; obtain ⟨hc, hf⟩ := bcell hb; have hz := hb.size; have z0 : w.heap.size < w9.heap.size := (by first | omega | (simp at hz; omega)); have z1 : w.heap.size + 1 < w9.heap.size := (by first | omega | (simp at hz; omega))) | (go_at_call 77; (with_reducible refine (impl_IsPoint _ _ _).mono ?_); rintro e w9 ⟨rfl, hb⟩; obtain ⟨hc, hf⟩ := bcell hb; have hz := hb.size; have z0 : w.heap.size < w9.heap.size := (by first | omega | (simp at hz; omega)); have z1 : w.heap.size + 1 < w9.heap.size := (by first | omega | (simp at hz; omega))) | (go_at_call 41; (with_reducible refine (impl_within _ _ _ _).mono ?_); rintro e w9 ⟨rfl, rfl⟩) | (go_at_call 119; (with_reducible refine (impl_along _ _ _ _ _ _ s1 s2 s3 s4 s5 s6 _).mono ?_); rintro e w9 ⟨rfl, hb⟩; obtain ⟨hc, hf⟩ := bcell hb; have hz := hb.size; have z0 : w.heap.size < w9.heap.size := (by first | omega | (simp at hz; omega)); have z1 : w.heap.size + 1 < w9.heap.size := (by first | omega | (simp at hz; omega))) | (go_at_call 120; (with_reducible refine (impl_cross _ _ _ _ _ _ s1 s2 s3 s4 s5 s6 _).mono ?_); rintro e w9 ⟨rfl, hb⟩; obtain ⟨hc, hf⟩ := bcell hb; have hz := hb.size; have z0 : w.heap.size < w9.heap.size := (by first | omega | (simp at hz; omega)); have z1 : w.heap.size + 1 < w9.heap.size := (by first | omega | (simp at hz; omega))) | (go_at_call 113; (with_reducible refine (impl_compareProducts _ _ _ _ k3 n3 k3 n3 dd0 n2 m0 n1 _).mono ?_); rintro e w9 ⟨rfl, rfl⟩))
  go_ret2
  exact ⟨ret_bi hv.out, bwz⟩
/-- The code of a segment, a point and a distance. -/
def wdC (v r : Bool) : Int := sel v (sel r 0 2) 1
set_option maxHeartbeats 1000000 in
theorem impl_WithinDistance (ax ay bx bY px py d : Int) (w : World) :
 Calls Tryz.prog 110 #[.agg #[.int .i64 ax, .int .i64 ay, .int .i64 bx, .int .i64 bY], .agg #[.int .i64 px, .int .i64 py], .int .i64 d] w fun e w' => e = .returned (.tuple #[.bool (selB (isSg ax ay bx bY && isPt px py && inB d 0 10000) (wdB ax ay bx bY px py d) false), .int .i64 (wdC (isSg ax ay bx bY && isPt px py) (inB d 0 10000))]) ∧ Below w.heap.size w w' := by
 rcases b4 (isSg ax ay bx bY) (isPt px py) (inB d 0 10000) with g1 | ⟨g1, g2⟩ | ⟨g1, g2, g3⟩ | ⟨g1, g2, g3⟩
 ·go_enter Tryz.func110, Tryz.ntmps110
  go_wp2_with (first | (go_at_call 104; (with_reducible refine (impl_IsSegment _ _ _ _ _).mono ?_); rintro e w9 ⟨rfl, hb⟩; obtain ⟨hc, hf⟩ := bcell hb; have hz := hb.size; have z0 : w.heap.size < w9.heap.size := (by first | omega | (simp at hz; omega)); have z1 : w.heap.size + 1 < w9.heap.size := (by first | omega | (simp at hz; omega))) | (go_at_call 77; (with_reducible refine (impl_IsPoint _ _ _).mono ?_); rintro e w9 ⟨rfl, hb⟩; obtain ⟨hc, hf⟩ := bcell hb; have hz := hb.size; have z0 : w.heap.size < w9.heap.size := (by first | omega | (simp at hz; omega)); have z1 : w.heap.size + 1 < w9.heap.size := (by first | omega | (simp at hz; omega))) | (go_at_call 41; (with_reducible refine (impl_within _ _ _ _).mono ?_); rintro e w9 ⟨rfl, rfl⟩))
  go_ret2
  exact ⟨by simp [sel, selB, wdC, *], bwz⟩
 ·go_enter Tryz.func110, Tryz.ntmps110
  go_wp2_with (first | (go_at_call 104; (with_reducible refine (impl_IsSegment _ _ _ _ _).mono ?_); rintro e w9 ⟨rfl, hb⟩; obtain ⟨hc, hf⟩ := bcell hb; have hz := hb.size; have z0 : w.heap.size < w9.heap.size := (by first | omega | (simp at hz; omega)); have z1 : w.heap.size + 1 < w9.heap.size := (by first | omega | (simp at hz; omega))) | (go_at_call 77; (with_reducible refine (impl_IsPoint _ _ _).mono ?_); rintro e w9 ⟨rfl, hb⟩; obtain ⟨hc, hf⟩ := bcell hb; have hz := hb.size; have z0 : w.heap.size < w9.heap.size := (by first | omega | (simp at hz; omega)); have z1 : w.heap.size + 1 < w9.heap.size := (by first | omega | (simp at hz; omega))) | (go_at_call 41; (with_reducible refine (impl_within _ _ _ _).mono ?_); rintro e w9 ⟨rfl, rfl⟩))
  go_ret2
  exact ⟨by simp [sel, selB, wdC, *], bwz⟩
 ·go_enter Tryz.func110, Tryz.ntmps110
  go_wp2_with (first | (go_at_call 104; (with_reducible refine (impl_IsSegment _ _ _ _ _).mono ?_); rintro e w9 ⟨rfl, hb⟩; obtain ⟨hc, hf⟩ := bcell hb; have hz := hb.size; have z0 : w.heap.size < w9.heap.size := (by first | omega | (simp at hz; omega)); have z1 : w.heap.size + 1 < w9.heap.size := (by first | omega | (simp at hz; omega))) | (go_at_call 77; (with_reducible refine (impl_IsPoint _ _ _).mono ?_); rintro e w9 ⟨rfl, hb⟩; obtain ⟨hc, hf⟩ := bcell hb; have hz := hb.size; have z0 : w.heap.size < w9.heap.size := (by first | omega | (simp at hz; omega)); have z1 : w.heap.size + 1 < w9.heap.size := (by first | omega | (simp at hz; omega))) | (go_at_call 41; (with_reducible refine (impl_within _ _ _ _).mono ?_); rintro e w9 ⟨rfl, rfl⟩))
  go_ret2
  exact ⟨by simp [sel, selB, wdC, *], bwz⟩
 ·exact (impl_WithinDistance_ok ax ay bx bY px py d g1 g2 g3 w).mono fun e w' h => ⟨by rw [h.1]; simp [sel, selB, wdC, *], h.2⟩
set_option maxHeartbeats 2000000 in
theorem spec_l02Within (ax ay bx bY px py d : Int) (g1 : isSg ax ay bx bY = true) (g2 : isPt px py = true) (g3 : inB d 0 10000 = true) (w : World) :
 Calls Tryz.prog 122 #[.agg #[.int .i64 ax, .int .i64 ay, .int .i64 bx, .int .i64 bY], .agg #[.int .i64 px, .int .i64 py], .int .i64 d] w fun e w' => e = .returned (.bool (wdB ax ay bx bY px py d)) ∧ Below w.heap.size w w' := by
 obtain ⟨ha, hb, m1⟩ := isSg_t g1
 obtain ⟨s1, s2⟩ := pt_sm ha
 obtain ⟨s3, s4⟩ := pt_sm hb
 obtain ⟨s5, s6⟩ := pt_sm g2
 obtain ⟨d0, d1⟩ := inB_t g3
 obtain ⟨dd0, dd1⟩ := nn_bd 10000 10000 100000000 d0 d1 d0 d1 (by decide)
 obtain ⟨f0, f1, c0, c1⟩ := pt_bd3 ha hb g2
 have m2 := (sq_pt ha hb).2
 have hs := wdB_spec ax ay bx bY px py d m1
 clear ha hb
 by_cases k1 : sq ax ay px py ≤ d * d
 ·have hv := hide (show true = wdB ax ay bx bY px py d by rw [hs]; simp [k1])
  clear hs
  go_enter Tryz.func122, Tryz.ntmps122
  go_wp2_with (go_at_call 102; (with_reducible refine (spec_l01Square _ _ _ _ s1 s2 s5 s6 _).mono ?_); rintro e w9 ⟨rfl, hb⟩; obtain ⟨hc, hf⟩ := bcell hb; have hz := hb.size; have z0 : w.heap.size < w9.heap.size := (by first | omega | (simp at hz; omega)); have z1 : w.heap.size + 1 < w9.heap.size := (by first | omega | (simp at hz; omega)))
  go_ret
  exact ⟨ret_b hv.out, bwz⟩
 by_cases k2 : sq bx bY px py ≤ d * d
 ·have hv := hide (show true = wdB ax ay bx bY px py d by rw [hs]; simp [k2])
  clear hs
  go_enter Tryz.func122, Tryz.ntmps122
  go_wp2_with (first | (go_at_call 102; (with_reducible refine (spec_l01Square _ _ _ _ s1 s2 s5 s6 _).mono ?_); rintro e w9 ⟨rfl, hb⟩; obtain ⟨hc, hf⟩ := bcell hb; have hz := hb.size; have z0 : w.heap.size < w9.heap.size := (by first | omega | (simp at hz; omega)); have z1 : w.heap.size + 1 < w9.heap.size := (by first | omega | (simp at hz; omega))) | (go_at_call 102; (with_reducible refine (spec_l01Square _ _ _ _ s3 s4 s5 s6 _).mono ?_); rintro e w9 ⟨rfl, hb⟩; obtain ⟨hc, hf⟩ := bcell hb; have hz := hb.size; have z0 : w.heap.size < w9.heap.size := (by first | omega | (simp at hz; omega)); have z1 : w.heap.size + 1 < w9.heap.size := (by first | omega | (simp at hz; omega))))
  go_ret
  exact ⟨ret_b hv.out, bwz⟩
 have hm : (bx - ax) * (bx - ax) + (bY - ay) * (bY - ay) = sq ax ay bx bY := by unfold sq; grind
 have hf : (bx - ax) * (px - ax) + (bY - ay) * (py - ay) = farI ax ay bx bY px py := by unfold farI; grind
 have hw : wdB ax ay bx bY px py d = (decide (0 < farI ax ay bx bY px py) && decide (farI ax ay bx bY px py < sq ax ay bx bY) && decide (crs ax ay bx bY px py * crs ax ay bx bY px py ≤ d * d * sq ax ay bx bY)) := by
  rw [hs]; simp [k1, k2]
 have t1 := sm_mul s3 s1 s5 s1
 have t2 := sm_mul s4 s2 s6 s2
 have t3 := sm_mul s3 s1 s3 s1
 have t4 := sm_mul s4 s2 s4 s2
 by_cases k3 : (bx - ax) * (px - ax) + (bY - ay) * (py - ay) ≤ 0
 ·have hv := hide (show false = wdB ax ay bx bY px py d by rw [hw]; rw [hf] at k3; simp; omega)
  clear hs hm hf hw
  go_enter Tryz.func122, Tryz.ntmps122
  go_wp2_with (first | (go_at_call 102; (with_reducible refine (spec_l01Square _ _ _ _ s1 s2 s5 s6 _).mono ?_); rintro e w9 ⟨rfl, hb⟩; obtain ⟨hc, hf⟩ := bcell hb; have hz := hb.size; have z0 : w.heap.size < w9.heap.size := (by first | omega | (simp at hz; omega)); have z1 : w.heap.size + 1 < w9.heap.size := (by first | omega | (simp at hz; omega))) | (go_at_call 102; (with_reducible refine (spec_l01Square _ _ _ _ s3 s4 s5 s6 _).mono ?_); rintro e w9 ⟨rfl, hb⟩; obtain ⟨hc, hf⟩ := bcell hb; have hz := hb.size; have z0 : w.heap.size < w9.heap.size := (by first | omega | (simp at hz; omega)); have z1 : w.heap.size + 1 < w9.heap.size := (by first | omega | (simp at hz; omega))) | (go_at_call 33; (with_reducible refine (spec_l01Minus _ _ _ _ s3 s4 s1 s2 _).mono ?_); rintro e wv ⟨rfl, hb⟩; obtain ⟨hc, hf⟩ := bcell hb; have hz := hb.size; have z0 : w.heap.size < wv.heap.size := (by first | omega | (simp at hz; omega)); have z1 : w.heap.size + 1 < wv.heap.size := (by first | omega | (simp at hz; omega))))
  go_region_held3 (fun W => W.cell? ⟨w.heap.size, 0, none⟩ = some (.int .i64 ax) ∧ W.cell? ⟨w.heap.size, 1, none⟩ = some (.int .i64 ay) ∧ W.cell? ⟨w.heap.size + 1, 0, none⟩ = some (.int .i64 px) ∧ W.cell? ⟨w.heap.size + 1, 1, none⟩ = some (.int .i64 py) ∧ W.cell? ⟨wv.heap.size, 0, none⟩ = some (.int .i64 (bx - ax)) ∧ W.cell? ⟨wv.heap.size, 1, none⟩ = some (.int .i64 (bY - ay)) ∧ Below w.heap.size w W ∧ w.heap.size + 2 ≤ W.heap.size)
  (first | (obtain ⟨k1, k2, k3, k4, k5, k6, kB, kz⟩ := ‹_ ∧ _›; exact ⟨cell_later hb k1, cell_later hb k2, cell_later hb k3, cell_later hb k4, cell_later hb k5, cell_later hb k6, bstep kB hb, bsize kz hb⟩) | (obtain ⟨k1, k2, k3, k4, k5, k6, kB, kz⟩ := ‹_ ∧ _›; exact ⟨k1, k2, k3, k4, k5, k6, kB, kz⟩) | (exact ⟨(by go_simp; done), (by go_simp; done), (by go_simp; done), (by go_simp; done), (by go_simp; done), (by go_simp; done), bwz, (by first | (simp; done) | (simp; omega) | omega)⟩))
   (first | (go_at_call 33; (with_reducible refine (spec_l01Minus _ _ _ _ s5 s6 s1 s2 _).mono ?_); rintro e w9 ⟨rfl, hb⟩; have hzz := hb.size; (try simp at hzz)) | (go_at_call 35; (with_reducible refine (spec_l01Dot _ _ (px - ax) (py - ay) t1 t2 _).mono ?_); rintro e w9 ⟨rfl, hb⟩; have hzz := hb.size; (try simp at hzz)) | (go_at_call 35; (with_reducible refine (spec_l01Dot _ _ (bx - ax) (bY - ay) t3 t4 _).mono ?_); rintro e w9 ⟨rfl, hb⟩; have hzz := hb.size; (try simp at hzz)))
  obtain ⟨k1, k2, k3, k4, k5, k6, kB, kz⟩ := ‹_ ∧ _›
  go_wp2
  go_ret
  exact ⟨ret_b hv.out, kB⟩
 by_cases k4 : (bx - ax) * (bx - ax) + (bY - ay) * (bY - ay) ≤ (bx - ax) * (px - ax) + (bY - ay) * (py - ay)
 ·have hv := hide (show false = wdB ax ay bx bY px py d by rw [hw]; rw [hf, hm] at k4; simp; omega)
  clear hs hm hf hw
  go_enter Tryz.func122, Tryz.ntmps122
  go_wp2_with (first | (go_at_call 102; (with_reducible refine (spec_l01Square _ _ _ _ s1 s2 s5 s6 _).mono ?_); rintro e w9 ⟨rfl, hb⟩; obtain ⟨hc, hf⟩ := bcell hb; have hz := hb.size; have z0 : w.heap.size < w9.heap.size := (by first | omega | (simp at hz; omega)); have z1 : w.heap.size + 1 < w9.heap.size := (by first | omega | (simp at hz; omega))) | (go_at_call 102; (with_reducible refine (spec_l01Square _ _ _ _ s3 s4 s5 s6 _).mono ?_); rintro e w9 ⟨rfl, hb⟩; obtain ⟨hc, hf⟩ := bcell hb; have hz := hb.size; have z0 : w.heap.size < w9.heap.size := (by first | omega | (simp at hz; omega)); have z1 : w.heap.size + 1 < w9.heap.size := (by first | omega | (simp at hz; omega))) | (go_at_call 33; (with_reducible refine (spec_l01Minus _ _ _ _ s3 s4 s1 s2 _).mono ?_); rintro e wv ⟨rfl, hb⟩; obtain ⟨hc, hf⟩ := bcell hb; have hz := hb.size; have z0 : w.heap.size < wv.heap.size := (by first | omega | (simp at hz; omega)); have z1 : w.heap.size + 1 < wv.heap.size := (by first | omega | (simp at hz; omega))))
  go_region_held3 (fun W => W.cell? ⟨w.heap.size, 0, none⟩ = some (.int .i64 ax) ∧ W.cell? ⟨w.heap.size, 1, none⟩ = some (.int .i64 ay) ∧ W.cell? ⟨w.heap.size + 1, 0, none⟩ = some (.int .i64 px) ∧ W.cell? ⟨w.heap.size + 1, 1, none⟩ = some (.int .i64 py) ∧ W.cell? ⟨wv.heap.size, 0, none⟩ = some (.int .i64 (bx - ax)) ∧ W.cell? ⟨wv.heap.size, 1, none⟩ = some (.int .i64 (bY - ay)) ∧ Below w.heap.size w W ∧ w.heap.size + 2 ≤ W.heap.size)
  (first | (obtain ⟨k1, k2, k3, k4, k5, k6, kB, kz⟩ := ‹_ ∧ _›; exact ⟨cell_later hb k1, cell_later hb k2, cell_later hb k3, cell_later hb k4, cell_later hb k5, cell_later hb k6, bstep kB hb, bsize kz hb⟩) | (obtain ⟨k1, k2, k3, k4, k5, k6, kB, kz⟩ := ‹_ ∧ _›; exact ⟨k1, k2, k3, k4, k5, k6, kB, kz⟩) | (exact ⟨(by go_simp; done), (by go_simp; done), (by go_simp; done), (by go_simp; done), (by go_simp; done), (by go_simp; done), bwz, (by first | (simp; done) | (simp; omega) | omega)⟩))
   (first | (go_at_call 33; (with_reducible refine (spec_l01Minus _ _ _ _ s5 s6 s1 s2 _).mono ?_); rintro e w9 ⟨rfl, hb⟩; have hzz := hb.size; (try simp at hzz)) | (go_at_call 35; (with_reducible refine (spec_l01Dot _ _ (px - ax) (py - ay) t1 t2 _).mono ?_); rintro e w9 ⟨rfl, hb⟩; have hzz := hb.size; (try simp at hzz)) | (go_at_call 35; (with_reducible refine (spec_l01Dot _ _ (bx - ax) (bY - ay) t3 t4 _).mono ?_); rintro e w9 ⟨rfl, hb⟩; have hzz := hb.size; (try simp at hzz)))
  obtain ⟨k1, k2, k3, k4, k5, k6, kB, kz⟩ := ‹_ ∧ _›
  go_wp2
  go_ret
  exact ⟨ret_b hv.out, kB⟩
 ·have hv := hide (show decide (absI ((bx - ax) * (py - ay) - (bY - ay) * (px - ax)) ≤ rt (d * d * ((bx - ax) * (bx - ax) + (bY - ay) * (bY - ay)))) = wdB ax ay bx bY px py d by
   rw [hw]
   rw [hf] at k3
   rw [hf, hm] at k4
   have h0 : 0 ≤ d * d * sq ax ay bx bY := Int.mul_nonneg dd0 (by omega)
   have ha := abs_le_rt (c := crs ax ay bx bY px py) h0
   rw [hm, show (bx - ax) * (py - ay) - (bY - ay) * (px - ax) = crs ax ay bx bY px py from rfl]
   have k5 : 0 < farI ax ay bx bY px py := by omega
   have k6 : farI ax ay bx bY px py < sq ax ay bx bY := by omega
   rw [Bool.eq_iff_iff]; simp only [decide_eq_true_eq, Bool.and_eq_true, k5, k6, ha, true_and])
  have b1 : 0 ≤ (bx - ax) * (bx - ax) + (bY - ay) * (bY - ay) := by rw [hm]; omega
  have b2 : (bx - ax) * (bx - ax) + (bY - ay) * (bY - ay) ≤ 8000000000000 := by rw [hm]; omega
  have b3 : -9000000000000000000 ≤ (bx - ax) * (py - ay) - (bY - ay) * (px - ax) := by show _ ≤ crs ax ay bx bY px py; omega
  have b4 : (bx - ax) * (py - ay) - (bY - ay) * (px - ax) ≤ 9000000000000000000 := by show crs ax ay bx bY px py ≤ _; omega
  have t5 := sm_mul s3 s1 s6 s2
  have t6 := sm_mul s4 s2 s5 s1
  clear hs hm hf hw
  go_enter Tryz.func122, Tryz.ntmps122
  go_wp2_with (first | (go_at_call 102; (with_reducible refine (spec_l01Square _ _ _ _ s1 s2 s5 s6 _).mono ?_); rintro e w9 ⟨rfl, hb⟩; obtain ⟨hc, hf⟩ := bcell hb; have hz := hb.size; have z0 : w.heap.size < w9.heap.size := (by first | omega | (simp at hz; omega)); have z1 : w.heap.size + 1 < w9.heap.size := (by first | omega | (simp at hz; omega))) | (go_at_call 102; (with_reducible refine (spec_l01Square _ _ _ _ s3 s4 s5 s6 _).mono ?_); rintro e w9 ⟨rfl, hb⟩; obtain ⟨hc, hf⟩ := bcell hb; have hz := hb.size; have z0 : w.heap.size < w9.heap.size := (by first | omega | (simp at hz; omega)); have z1 : w.heap.size + 1 < w9.heap.size := (by first | omega | (simp at hz; omega))) | (go_at_call 33; (with_reducible refine (spec_l01Minus _ _ _ _ s3 s4 s1 s2 _).mono ?_); rintro e wv ⟨rfl, hb⟩; obtain ⟨hc, hf⟩ := bcell hb; have hz := hb.size; have z0 : w.heap.size < wv.heap.size := (by first | omega | (simp at hz; omega)); have z1 : w.heap.size + 1 < wv.heap.size := (by first | omega | (simp at hz; omega))))
  go_region_held3 (fun W => W.cell? ⟨w.heap.size, 0, none⟩ = some (.int .i64 ax) ∧ W.cell? ⟨w.heap.size, 1, none⟩ = some (.int .i64 ay) ∧ W.cell? ⟨w.heap.size + 1, 0, none⟩ = some (.int .i64 px) ∧ W.cell? ⟨w.heap.size + 1, 1, none⟩ = some (.int .i64 py) ∧ W.cell? ⟨wv.heap.size, 0, none⟩ = some (.int .i64 (bx - ax)) ∧ W.cell? ⟨wv.heap.size, 1, none⟩ = some (.int .i64 (bY - ay)) ∧ Below w.heap.size w W ∧ w.heap.size + 2 ≤ W.heap.size)
  (first | (obtain ⟨k1, k2, k3, k4, k5, k6, kB, kz⟩ := ‹_ ∧ _›; exact ⟨cell_later hb k1, cell_later hb k2, cell_later hb k3, cell_later hb k4, cell_later hb k5, cell_later hb k6, bstep kB hb, bsize kz hb⟩) | (obtain ⟨k1, k2, k3, k4, k5, k6, kB, kz⟩ := ‹_ ∧ _›; exact ⟨k1, k2, k3, k4, k5, k6, kB, kz⟩) | (exact ⟨(by go_simp; done), (by go_simp; done), (by go_simp; done), (by go_simp; done), (by go_simp; done), (by go_simp; done), bwz, (by first | (simp; done) | (simp; omega) | omega)⟩))
   (first | (go_at_call 33; (with_reducible refine (spec_l01Minus _ _ _ _ s5 s6 s1 s2 _).mono ?_); rintro e w9 ⟨rfl, hb⟩; have hzz := hb.size; (try simp at hzz)) | (go_at_call 35; (with_reducible refine (spec_l01Dot _ _ (px - ax) (py - ay) t1 t2 _).mono ?_); rintro e w9 ⟨rfl, hb⟩; have hzz := hb.size; (try simp at hzz)) | (go_at_call 35; (with_reducible refine (spec_l01Dot _ _ (bx - ax) (bY - ay) t3 t4 _).mono ?_); rintro e w9 ⟨rfl, hb⟩; have hzz := hb.size; (try simp at hzz)))
  obtain ⟨k1, k2, k3, k4, k5, k6, kB, kz⟩ := ‹_ ∧ _›
  go_wp2
  go_region_held3 (fun W => W.cell? ⟨w.heap.size, 0, none⟩ = some (.int .i64 ax) ∧ W.cell? ⟨w.heap.size, 1, none⟩ = some (.int .i64 ay) ∧ W.cell? ⟨w.heap.size + 1, 0, none⟩ = some (.int .i64 px) ∧ W.cell? ⟨w.heap.size + 1, 1, none⟩ = some (.int .i64 py) ∧ W.cell? ⟨wv.heap.size, 0, none⟩ = some (.int .i64 (bx - ax)) ∧ W.cell? ⟨wv.heap.size, 1, none⟩ = some (.int .i64 (bY - ay)) ∧ Below w.heap.size w W ∧ w.heap.size + 2 ≤ W.heap.size)
  (first | (obtain ⟨k1, k2, k3, k4, k5, k6, kB, kz⟩ := ‹_ ∧ _›; exact ⟨cell_later hb k1, cell_later hb k2, cell_later hb k3, cell_later hb k4, cell_later hb k5, cell_later hb k6, bstep kB hb, bsize kz hb⟩) | (obtain ⟨k1, k2, k3, k4, k5, k6, kB, kz⟩ := ‹_ ∧ _›; exact ⟨k1, k2, k3, k4, k5, k6, kB, kz⟩) | (exact ⟨(by go_simp; done), (by go_simp; done), (by go_simp; done), (by go_simp; done), (by go_simp; done), (by go_simp; done), bwz, (by first | (simp; done) | (simp; omega) | omega)⟩))
   (first | (go_at_call 33; (with_reducible refine (spec_l01Minus _ _ _ _ s5 s6 s1 s2 _).mono ?_); rintro e w9 ⟨rfl, hb⟩; have hzz := hb.size; (try simp at hzz)) | (go_at_call 98; (with_reducible refine (spec_l01Cross _ _ (px - ax) (py - ay) t5 t6 _).mono ?_); rintro e w9 ⟨rfl, hb⟩; have hzz := hb.size; (try simp at hzz)) | (go_at_call 100; (with_reducible refine (spec_l01Abs _ b3 b4 _).mono ?_); rintro e w9 ⟨rfl, rfl⟩) | (go_at_call 117; (with_reducible refine (spec_l02RootOf _ _ d0 d1 b1 b2 _).mono ?_); rintro e w9 ⟨rfl, rfl⟩))
  obtain ⟨k1, k2, k3, k4, k5, k6, kB, kz⟩ := ‹_ ∧ _›
  go_wp2
  go_ret
  exact ⟨ret_b hv.out, kB⟩
end Go.Proofs.YthlnpcneicmblaaGreatDoor
