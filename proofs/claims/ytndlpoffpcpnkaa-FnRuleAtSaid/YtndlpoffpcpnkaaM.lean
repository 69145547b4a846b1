/- Walks: the ruling for two boats. -/
import Derived.Test.YtndlpoffpcpnkaaB
import Derived.Test.YtndlpoffpcpnkaaG
import Derived.Test.YtndlpoffpcpnkaaBs
namespace Go.Proofs.Ytndlpoffpcpnkaa
open Go.RowKit

/-- The ruling for two boats: who keeps clear, and why. -/
def rulI (wx wy bx bY hx hy l : Int) (t : Bool) (cx cy ix iy m : Int) (u : Bool) : Int × Int :=
  if t != u then (if t then (1, 1) else (2, 1))
  else if t || tackI wx wy hx hy == 0 || tackI wx wy ix iy == 0 then (0, 5)
  else if tackI wx wy hx hy != tackI wx wy ix iy then (tackI wx wy hx hy, 2)
  else if ovlH bx bY hx hy l cx cy ix iy m == 1 then (2, 3)
  else if ovlH bx bY hx hy l cx cy ix iy m == 2 then (1, 3)
  else if ovlH bx bY hx hy l cx cy ix iy m == 3 then (0, 5)
  else if 0 < wwI wx wy bx bY cx cy then (wwI wx wy bx bY cx cy, 4) else (0, 5)
theorem tackI_range (wx wy x y : Int) : tackI wx wy x y = 0 ∨ tackI wx wy x y = 1 ∨ tackI wx wy x y = 2 := by unfold tackI; (repeat' split) <;> simp
theorem wwI_range (wx wy ax ay bx bY : Int) : wwI wx wy ax ay bx bY = 0 ∨ wwI wx wy ax ay bx bY = 1 ∨ wwI wx wy ax ay bx bY = 2 := by unfold wwI; (repeat' split) <;> simp
theorem ret_a2 {a b c d : Int} (h : (a, b) = (c, d)) : Ending.returned (.agg #[.int .i64 a, .int .i64 b]) = .returned (.agg #[.int .i64 c, .int .i64 d]) := by cases h; rfl

set_option maxHeartbeats 4000000 in
theorem impl_rule (wx wy bx bY hx hy l : Int) (t : Bool) (cx cy ix iy m : Int) (u : Bool) (h1 : isWd wx wy = true) (h2 : isHu bx bY hx hy l = true) (h3 : isHu cx cy ix iy m = true) (w : World) :
    Calls Try.prog 17 #[.agg #[.int .i64 wx, .int .i64 wy], .agg #[.int .i64 bx, .int .i64 bY, .int .i64 hx, .int .i64 hy, .int .i64 l, .bool (t)], .agg #[.int .i64 cx, .int .i64 cy, .int .i64 ix, .int .i64 iy, .int .i64 m, .bool (u)]] w fun e w' => e = .returned (.agg #[.int .i64 (rulI wx wy bx bY hx hy l t cx cy ix iy m u).1, .int .i64 (rulI wx wy bx bY hx hy l t cx cy ix iy m u).2]) ∧ Below w.heap.size w w' := by
  have ⟨_, p2, p3, _⟩ := wh_bd h1 (isHu_t h2).2.1
  have ⟨_, r2, r3, _⟩ := wh_bd h1 (isHu_t h3).2.1
  rcases b2 t with gt | gt
  all_goals rcases b2 u with gu | gu
  · have hr : rulI wx wy bx bY hx hy l false cx cy ix iy m false = if tackI wx wy hx hy == 0 || tackI wx wy ix iy == 0 then (0, 5)
        else if tackI wx wy hx hy != tackI wx wy ix iy then (tackI wx wy hx hy, 2)
        else if ovlH bx bY hx hy l cx cy ix iy m == 1 then (2, 3)
        else if ovlH bx bY hx hy l cx cy ix iy m == 2 then (1, 3)
        else if ovlH bx bY hx hy l cx cy ix iy m == 3 then (0, 5)
        else if 0 < wwI wx wy bx bY cx cy then (wwI wx wy bx bY cx cy, 4) else (0, 5) := by simp [rulI]
    have Hr := hide hr
    clear hr
    go_enter Try.func17, Try.ntmps17
    go_wp2
    go_region_held3 (fun W => W.cell? ⟨w.heap.size, 0, none⟩ = some (.int .i64 wx) ∧ W.cell? ⟨w.heap.size, 1, none⟩ = some (.int .i64 wy) ∧ W.cell? ⟨w.heap.size + 1, 0, none⟩ = some (.int .i64 bx) ∧ W.cell? ⟨w.heap.size + 1, 1, none⟩ = some (.int .i64 bY) ∧ W.cell? ⟨w.heap.size + 1, 2, none⟩ = some (.int .i64 hx) ∧ W.cell? ⟨w.heap.size + 1, 3, none⟩ = some (.int .i64 hy) ∧ W.cell? ⟨w.heap.size + 1, 4, none⟩ = some (.int .i64 l) ∧ W.cell? ⟨w.heap.size + 1, 5, none⟩ = some (.bool (t)) ∧ W.cell? ⟨w.heap.size + 2, 0, none⟩ = some (.int .i64 cx) ∧ W.cell? ⟨w.heap.size + 2, 1, none⟩ = some (.int .i64 cy) ∧ W.cell? ⟨w.heap.size + 2, 2, none⟩ = some (.int .i64 ix) ∧ W.cell? ⟨w.heap.size + 2, 3, none⟩ = some (.int .i64 iy) ∧ W.cell? ⟨w.heap.size + 2, 4, none⟩ = some (.int .i64 m) ∧ W.cell? ⟨w.heap.size + 2, 5, none⟩ = some (.bool (u)) ∧ W.cell? ⟨w.heap.size + 3, 0, none⟩ = some (.int .i64 0) ∧ W.frozen? ⟨w.heap.size + 3, 0, none⟩ = false ∧ W.cell? ⟨w.heap.size + 3, 1, none⟩ = some (.int .i64 0) ∧ W.frozen? ⟨w.heap.size + 3, 1, none⟩ = false ∧ W.cell? ⟨w.heap.size + 4, 0, none⟩ = some (.int .i64 0) ∧ W.cell? ⟨w.heap.size + 4, 1, none⟩ = some (.int .i64 5) ∧ Below w.heap.size w W ∧ w.heap.size + 5 ≤ W.heap.size)
    (first | (obtain ⟨k1, k2, k3, k4, k5, k6, k7, k8, k9, k10, k11, k12, k13, k14, k15, k16, k17, k18, k19, k20, kB, kz⟩ := ‹_ ∧ _›; exact ⟨cell_later hb k1, cell_later hb k2, cell_later hb k3, cell_later hb k4, cell_later hb k5, cell_later hb k6, cell_later hb k7, cell_later hb k8, cell_later hb k9, cell_later hb k10, cell_later hb k11, cell_later hb k12, cell_later hb k13, cell_later hb k14, cell_later hb k15, (frozen_later hb k15 k16), cell_later hb k17, (frozen_later hb k17 k18), cell_later hb k19, cell_later hb k20, bstep kB hb, bsize kz hb⟩) | (obtain ⟨k1, k2, k3, k4, k5, k6, k7, k8, k9, k10, k11, k12, k13, k14, k15, k16, k17, k18, k19, k20, kB, kz⟩ := ‹_ ∧ _›; exact ⟨k1, k2, k3, k4, k5, k6, k7, k8, k9, k10, k11, k12, k13, k14, k15, k16, k17, k18, k19, k20, kB, kz⟩) | (exact ⟨(by go_simp; done), (by go_simp; done), (by go_simp; done), (by go_simp; done), (by go_simp; done), (by go_simp; done), (by go_simp; done), (by go_simp; done), (by go_simp; done), (by go_simp; done), (by go_simp; done), (by go_simp; done), (by go_simp; done), (by go_simp; done), (by go_simp; done), (by go_simp; done), (by go_simp; done), (by go_simp; done), (by go_simp; done), (by go_simp; done), bwz, (by first | (simp; done) | (simp; omega) | omega)⟩))
     (first | (go_at_call 28; (with_reducible refine (impl_tackOf _ _ hx hy p2 p3 _).mono ?_); rintro e w9 ⟨rfl, hb⟩; have hzz := hb.size; (try simp at hzz)) | (go_at_call 28; (with_reducible refine (impl_tackOf _ _ ix iy r2 r3 _).mono ?_); rintro e w9 ⟨rfl, hb⟩; have hzz := hb.size; (try simp at hzz)))
    obtain ⟨k1, k2, k3, k4, k5, k6, k7, k8, k9, k10, k11, k12, k13, k14, k15, k16, k17, k18, k19, k20, kB, kz⟩ := ‹_ ∧ _›
    have zy0 : w.heap.size < w9.heap.size := (by omega); have zy1 : w.heap.size + 1 < w9.heap.size := (by omega); have zy2 : w.heap.size + 1 + 1 < w9.heap.size := (by omega); have zy3 : w.heap.size + 1 + 1 + 1 < w9.heap.size := (by omega); have zy4 : w.heap.size + 1 + 1 + 1 + 1 < w9.heap.size := (by omega)
    clear p2 p3 r2 r3
    go_wp2_with (first | (go_at_call 29; (with_reducible refine (impl_overlapOf _ _ _ _ _ _ _ _ _ _ h2 h3 _).mono ?_); rintro e w9 ⟨rfl, hb⟩; obtain ⟨hc, hf⟩ := bcell hb; have hz := hb.size; have z0 : w.heap.size < w9.heap.size := (by first | omega | (simp at hz; omega)); have z1 : w.heap.size + 1 < w9.heap.size := (by first | omega | (simp at hz; omega)); have z2 : w.heap.size + 1 + 1 < w9.heap.size := (by first | omega | (simp at hz; omega)); have z3 : w.heap.size + 1 + 1 + 1 < w9.heap.size := (by first | omega | (simp at hz; omega)); have z4 : w.heap.size + 1 + 1 + 1 + 1 < w9.heap.size := (by first | omega | (simp at hz; omega))) | (go_at_call 30; (with_reducible refine (impl_windwardOf _ _ _ _ _ _ _ _ _ _ _ _ h1 h2 h3 _).mono ?_); rintro e w9 ⟨rfl, hb⟩; obtain ⟨hc, hf⟩ := bcell hb; have hz := hb.size; have z0 : w.heap.size < w9.heap.size := (by first | omega | (simp at hz; omega)); have z1 : w.heap.size + 1 < w9.heap.size := (by first | omega | (simp at hz; omega)); have z2 : w.heap.size + 1 + 1 < w9.heap.size := (by first | omega | (simp at hz; omega)); have z3 : w.heap.size + 1 + 1 + 1 < w9.heap.size := (by first | omega | (simp at hz; omega)); have z4 : w.heap.size + 1 + 1 + 1 + 1 < w9.heap.size := (by first | omega | (simp at hz; omega))))
    all_goals
      simp [bodyPost, results, Try.results17, go_sem, *]
      refine ⟨?_, bwz⟩
      rw [Hr.out]
      first | (simp [*]; done) | (rcases ‹_ ∨ _› with k | k <;> simp [k]; done) | ((repeat' split) <;> simp_all <;> omega)
  · have hr : rulI wx wy bx bY hx hy l false cx cy ix iy m true = (2, 1) := by simp [rulI]
    have Hr := hide hr
    clear hr
    go_enter Try.func17, Try.ntmps17
    go_wp2
    simp [bodyPost, results, Try.results17, go_sem, *]
    exact ⟨by rw [Hr.out]; simp, bwz⟩
  · have hr : rulI wx wy bx bY hx hy l true cx cy ix iy m false = (1, 1) := by simp [rulI]
    have Hr := hide hr
    clear hr
    go_enter Try.func17, Try.ntmps17
    go_wp2
    simp [bodyPost, results, Try.results17, go_sem, *]
    exact ⟨by rw [Hr.out]; simp, bwz⟩
  · have hr : rulI wx wy bx bY hx hy l true cx cy ix iy m true = (0, 5) := by simp [rulI]
    have Hr := hide hr
    clear hr
    go_enter Try.func17, Try.ntmps17
    go_wp2
    go_region_held3 (fun W => W.cell? ⟨w.heap.size, 0, none⟩ = some (.int .i64 wx) ∧ W.cell? ⟨w.heap.size, 1, none⟩ = some (.int .i64 wy) ∧ W.cell? ⟨w.heap.size + 1, 0, none⟩ = some (.int .i64 bx) ∧ W.cell? ⟨w.heap.size + 1, 1, none⟩ = some (.int .i64 bY) ∧ W.cell? ⟨w.heap.size + 1, 2, none⟩ = some (.int .i64 hx) ∧ W.cell? ⟨w.heap.size + 1, 3, none⟩ = some (.int .i64 hy) ∧ W.cell? ⟨w.heap.size + 1, 4, none⟩ = some (.int .i64 l) ∧ W.cell? ⟨w.heap.size + 1, 5, none⟩ = some (.bool (t)) ∧ W.cell? ⟨w.heap.size + 2, 0, none⟩ = some (.int .i64 cx) ∧ W.cell? ⟨w.heap.size + 2, 1, none⟩ = some (.int .i64 cy) ∧ W.cell? ⟨w.heap.size + 2, 2, none⟩ = some (.int .i64 ix) ∧ W.cell? ⟨w.heap.size + 2, 3, none⟩ = some (.int .i64 iy) ∧ W.cell? ⟨w.heap.size + 2, 4, none⟩ = some (.int .i64 m) ∧ W.cell? ⟨w.heap.size + 2, 5, none⟩ = some (.bool (u)) ∧ W.cell? ⟨w.heap.size + 3, 0, none⟩ = some (.int .i64 0) ∧ W.frozen? ⟨w.heap.size + 3, 0, none⟩ = false ∧ W.cell? ⟨w.heap.size + 3, 1, none⟩ = some (.int .i64 0) ∧ W.frozen? ⟨w.heap.size + 3, 1, none⟩ = false ∧ W.cell? ⟨w.heap.size + 4, 0, none⟩ = some (.int .i64 0) ∧ W.cell? ⟨w.heap.size + 4, 1, none⟩ = some (.int .i64 5) ∧ Below w.heap.size w W ∧ w.heap.size + 5 ≤ W.heap.size)
    (first | (obtain ⟨k1, k2, k3, k4, k5, k6, k7, k8, k9, k10, k11, k12, k13, k14, k15, k16, k17, k18, k19, k20, kB, kz⟩ := ‹_ ∧ _›; exact ⟨cell_later hb k1, cell_later hb k2, cell_later hb k3, cell_later hb k4, cell_later hb k5, cell_later hb k6, cell_later hb k7, cell_later hb k8, cell_later hb k9, cell_later hb k10, cell_later hb k11, cell_later hb k12, cell_later hb k13, cell_later hb k14, cell_later hb k15, (frozen_later hb k15 k16), cell_later hb k17, (frozen_later hb k17 k18), cell_later hb k19, cell_later hb k20, bstep kB hb, bsize kz hb⟩) | (obtain ⟨k1, k2, k3, k4, k5, k6, k7, k8, k9, k10, k11, k12, k13, k14, k15, k16, k17, k18, k19, k20, kB, kz⟩ := ‹_ ∧ _›; exact ⟨k1, k2, k3, k4, k5, k6, k7, k8, k9, k10, k11, k12, k13, k14, k15, k16, k17, k18, k19, k20, kB, kz⟩) | (exact ⟨(by go_simp; done), (by go_simp; done), (by go_simp; done), (by go_simp; done), (by go_simp; done), (by go_simp; done), (by go_simp; done), (by go_simp; done), (by go_simp; done), (by go_simp; done), (by go_simp; done), (by go_simp; done), (by go_simp; done), (by go_simp; done), (by go_simp; done), (by go_simp; done), (by go_simp; done), (by go_simp; done), (by go_simp; done), (by go_simp; done), bwz, (by first | (simp; done) | (simp; omega) | omega)⟩))
     (first | (go_at_call 28; (with_reducible refine (impl_tackOf _ _ hx hy p2 p3 _).mono ?_); rintro e w9 ⟨rfl, hb⟩; have hzz := hb.size; (try simp at hzz)) | (go_at_call 28; (with_reducible refine (impl_tackOf _ _ ix iy r2 r3 _).mono ?_); rintro e w9 ⟨rfl, hb⟩; have hzz := hb.size; (try simp at hzz)))
    obtain ⟨k1, k2, k3, k4, k5, k6, k7, k8, k9, k10, k11, k12, k13, k14, k15, k16, k17, k18, k19, k20, kB, kz⟩ := ‹_ ∧ _›
    go_wp2
    simp [bodyPost, results, Try.results17, go_sem, *]
    exact ⟨by rw [Hr.out]; simp, bwz⟩
theorem spec_l10Unclear (w : World) :
    Calls Try.prog 33 #[] w fun e w' => e = .returned (.agg #[.int .i64 0, .int .i64 5]) ∧ Below w.heap.size w w' := by
  go_enter Try.func33, Try.ntmps33
  go_wp2
  simp [bodyPost, results, Try.results33, go_sem, *]
  exact bwz
set_option maxHeartbeats 8000000 in
theorem spec_l10Rule (wx wy bx bY hx hy l : Int) (t : Bool) (cx cy ix iy m : Int) (u : Bool) (h1 : isWd wx wy = true) (h2 : isHu bx bY hx hy l = true) (h3 : isHu cx cy ix iy m = true) (w : World) :
    Calls Try.prog 19 #[.agg #[.int .i64 wx, .int .i64 wy], .agg #[.int .i64 bx, .int .i64 bY, .int .i64 hx, .int .i64 hy, .int .i64 l, .bool (t)], .agg #[.int .i64 cx, .int .i64 cy, .int .i64 ix, .int .i64 iy, .int .i64 m, .bool (u)]] w fun e w' => e = .returned (.agg #[.int .i64 (rulI wx wy bx bY hx hy l t cx cy ix iy m u).1, .int .i64 (rulI wx wy bx bY hx hy l t cx cy ix iy m u).2]) ∧ Below w.heap.size w w' := by
  have ⟨_, p2, p3, _⟩ := wh_bd h1 (isHu_t h2).2.1
  have ⟨_, r2, r3, _⟩ := wh_bd h1 (isHu_t h3).2.1
  have ta := tackI_range wx wy hx hy
  have tb := tackI_range wx wy ix iy
  have tw := wwI_range wx wy bx bY cx cy
  have Ta := hide ta
  have Tb := hide tb
  have Tw := hide tw
  clear ta tb tw
  rcases b2 t with gt | gt
  all_goals rcases b2 u with gu | gu
  · have hr : rulI wx wy bx bY hx hy l false cx cy ix iy m false = if tackI wx wy hx hy == 0 || tackI wx wy ix iy == 0 then (0, 5)
        else if tackI wx wy hx hy != tackI wx wy ix iy then (tackI wx wy hx hy, 2)
        else if ovlH bx bY hx hy l cx cy ix iy m == 1 then (2, 3)
        else if ovlH bx bY hx hy l cx cy ix iy m == 2 then (1, 3)
        else if ovlH bx bY hx hy l cx cy ix iy m == 3 then (0, 5)
        else if 0 < wwI wx wy bx bY cx cy then (wwI wx wy bx bY cx cy, 4) else (0, 5) := by simp [rulI]
    have Hr := hide hr
    clear hr
    go_enter Try.func19, Try.ntmps19
    go_wp2
    go_region_held3 (fun W => W.cell? ⟨w.heap.size, 0, none⟩ = some (.int .i64 wx) ∧ W.cell? ⟨w.heap.size, 1, none⟩ = some (.int .i64 wy) ∧ W.cell? ⟨w.heap.size + 1, 0, none⟩ = some (.int .i64 bx) ∧ W.cell? ⟨w.heap.size + 1, 1, none⟩ = some (.int .i64 bY) ∧ W.cell? ⟨w.heap.size + 1, 2, none⟩ = some (.int .i64 hx) ∧ W.cell? ⟨w.heap.size + 1, 3, none⟩ = some (.int .i64 hy) ∧ W.cell? ⟨w.heap.size + 1, 4, none⟩ = some (.int .i64 l) ∧ W.cell? ⟨w.heap.size + 1, 5, none⟩ = some (.bool (t)) ∧ W.cell? ⟨w.heap.size + 2, 0, none⟩ = some (.int .i64 cx) ∧ W.cell? ⟨w.heap.size + 2, 1, none⟩ = some (.int .i64 cy) ∧ W.cell? ⟨w.heap.size + 2, 2, none⟩ = some (.int .i64 ix) ∧ W.cell? ⟨w.heap.size + 2, 3, none⟩ = some (.int .i64 iy) ∧ W.cell? ⟨w.heap.size + 2, 4, none⟩ = some (.int .i64 m) ∧ W.cell? ⟨w.heap.size + 2, 5, none⟩ = some (.bool (u)) ∧ W.cell? ⟨w.heap.size + 3, 0, none⟩ = some (.int .i64 0) ∧ W.frozen? ⟨w.heap.size + 3, 0, none⟩ = false ∧ W.cell? ⟨w.heap.size + 3, 1, none⟩ = some (.int .i64 0) ∧ W.frozen? ⟨w.heap.size + 3, 1, none⟩ = false ∧ Below w.heap.size w W ∧ w.heap.size + 4 ≤ W.heap.size)
    (first | (obtain ⟨k1, k2, k3, k4, k5, k6, k7, k8, k9, k10, k11, k12, k13, k14, k15, k16, k17, k18, kB, kz⟩ := ‹_ ∧ _›; exact ⟨cell_later hb k1, cell_later hb k2, cell_later hb k3, cell_later hb k4, cell_later hb k5, cell_later hb k6, cell_later hb k7, cell_later hb k8, cell_later hb k9, cell_later hb k10, cell_later hb k11, cell_later hb k12, cell_later hb k13, cell_later hb k14, cell_later hb k15, (frozen_later hb k15 k16), cell_later hb k17, (frozen_later hb k17 k18), bstep kB hb, bsize kz hb⟩) | (obtain ⟨k1, k2, k3, k4, k5, k6, k7, k8, k9, k10, k11, k12, k13, k14, k15, k16, k17, k18, kB, kz⟩ := ‹_ ∧ _›; exact ⟨k1, k2, k3, k4, k5, k6, k7, k8, k9, k10, k11, k12, k13, k14, k15, k16, k17, k18, kB, kz⟩) | (exact ⟨(by go_simp; done), (by go_simp; done), (by go_simp; done), (by go_simp; done), (by go_simp; done), (by go_simp; done), (by go_simp; done), (by go_simp; done), (by go_simp; done), (by go_simp; done), (by go_simp; done), (by go_simp; done), (by go_simp; done), (by go_simp; done), (by go_simp; done), (by go_simp; done), (by go_simp; done), (by go_simp; done), bwz, (by first | (simp; done) | (simp; omega) | omega)⟩))
     (first | (go_at_call 34; (with_reducible refine (spec_l08Tack _ _ hx hy p2 p3 _).mono ?_); rintro e w9 ⟨rfl, hb⟩; have hzz := hb.size; (try simp at hzz)) | (go_at_call 34; (with_reducible refine (spec_l08Tack _ _ ix iy r2 r3 _).mono ?_); rintro e w9 ⟨rfl, hb⟩; have hzz := hb.size; (try simp at hzz)))
    obtain ⟨k1, k2, k3, k4, k5, k6, k7, k8, k9, k10, k11, k12, k13, k14, k15, k16, k17, k18, kB, kz⟩ := ‹_ ∧ _›
    have zy0 : w.heap.size < w9.heap.size := (by omega); have zy1 : w.heap.size + 1 < w9.heap.size := (by omega); have zy2 : w.heap.size + 1 + 1 < w9.heap.size := (by omega); have zy3 : w.heap.size + 1 + 1 + 1 < w9.heap.size := (by omega)
    clear p2 p3 r2 r3
    go_wp2_with (first | (go_at_call 33; (with_reducible refine (spec_l10Unclear _).mono ?_); rintro e w9 ⟨rfl, hb⟩; obtain ⟨hc, hf⟩ := bcell hb; have hz := hb.size; have z0 : w.heap.size < w9.heap.size := (by first | omega | (simp at hz; omega)); have z1 : w.heap.size + 1 < w9.heap.size := (by first | omega | (simp at hz; omega)); have z2 : w.heap.size + 1 + 1 < w9.heap.size := (by first | omega | (simp at hz; omega)); have z3 : w.heap.size + 1 + 1 + 1 < w9.heap.size := (by first | omega | (simp at hz; omega))) | (go_at_call 35; (with_reducible refine (spec_l09Overlap _ _ _ _ _ _ _ _ _ _ h2 h3 _).mono ?_); rintro e w9 ⟨rfl, hb⟩; obtain ⟨hc, hf⟩ := bcell hb; have hz := hb.size; have z0 : w.heap.size < w9.heap.size := (by first | omega | (simp at hz; omega)); have z1 : w.heap.size + 1 < w9.heap.size := (by first | omega | (simp at hz; omega)); have z2 : w.heap.size + 1 + 1 < w9.heap.size := (by first | omega | (simp at hz; omega)); have z3 : w.heap.size + 1 + 1 + 1 < w9.heap.size := (by first | omega | (simp at hz; omega))) | (go_at_call 36; (with_reducible refine (spec_l09Windward _ _ _ _ _ _ _ _ _ _ _ _ h1 h2 h3 _).mono ?_); rintro e w9 ⟨rfl, hb⟩; obtain ⟨hc, hf⟩ := bcell hb; have hz := hb.size; have z0 : w.heap.size < w9.heap.size := (by first | omega | (simp at hz; omega)); have z1 : w.heap.size + 1 < w9.heap.size := (by first | omega | (simp at hz; omega)); have z2 : w.heap.size + 1 + 1 < w9.heap.size := (by first | omega | (simp at hz; omega)); have z3 : w.heap.size + 1 + 1 + 1 < w9.heap.size := (by first | omega | (simp at hz; omega))))
    all_goals
      simp [bodyPost, results, Try.results19, go_sem, *]
      refine ⟨?_, bwz⟩
      rw [Hr.out]
      have ta := Ta.out
      have tb := Tb.out
      have tw := Tw.out
      first | (simp [*]; done) | ((repeat' split) <;> simp_all <;> omega)
  · have hr : rulI wx wy bx bY hx hy l false cx cy ix iy m true = (2, 1) := by simp [rulI]
    have Hr := hide hr
    clear hr
    go_enter Try.func19, Try.ntmps19
    go_wp2
    simp [bodyPost, results, Try.results19, go_sem, *]
    exact ⟨by rw [Hr.out]; simp, bwz⟩
  · have hr : rulI wx wy bx bY hx hy l true cx cy ix iy m false = (1, 1) := by simp [rulI]
    have Hr := hide hr
    clear hr
    go_enter Try.func19, Try.ntmps19
    go_wp2
    simp [bodyPost, results, Try.results19, go_sem, *]
    exact ⟨by rw [Hr.out]; simp, bwz⟩
  · have hr : rulI wx wy bx bY hx hy l true cx cy ix iy m true = (0, 5) := by simp [rulI]
    have Hr := hide hr
    clear hr
    go_enter Try.func19, Try.ntmps19
    go_wp2_with (go_at_call 33; (with_reducible refine (spec_l10Unclear _).mono ?_); rintro e w9 ⟨rfl, hb⟩; obtain ⟨hc, hf⟩ := bcell hb; have hz := hb.size; have z0 : w.heap.size < w9.heap.size := (by first | omega | (simp at hz; omega)); have z1 : w.heap.size + 1 < w9.heap.size := (by first | omega | (simp at hz; omega)); have z2 : w.heap.size + 1 + 1 < w9.heap.size := (by first | omega | (simp at hz; omega)); have z3 : w.heap.size + 1 + 1 + 1 < w9.heap.size := (by first | omega | (simp at hz; omega)))
    simp [bodyPost, results, Try.results19, go_sem, *]
    exact ⟨by rw [Hr.out]; simp, bwz⟩
end Go.Proofs.Ytndlpoffpcpnkaa
