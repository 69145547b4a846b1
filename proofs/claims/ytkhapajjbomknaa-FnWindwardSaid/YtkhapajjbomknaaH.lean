/- Walks: sterns, gaps, gains to windward. -/
import Derived.Test.YtkhapajjbomknaaG
namespace Go.Proofs.Ytkhapajjbomknaa
open Go.RowKit

/-- A coordinate of the stern. -/
def stn (b h l n : Int) : Int := b - h * l / n
theorem rt_hd {x y : Int} (h : isHd x y = true) : 1 ≤ rt (x * x + y * y) ∧ rt (x * x + y * y) ≤ 3000000 := by
  obtain ⟨q1, q2, q3, q4, q5⟩ := hd_sq h
  exact ⟨rt_pos q5, rt_le (by omega) (by omega) (by omega)⟩
theorem hl_bd {x l : Int} (h1 : -2000000 ≤ x) (h2 : x ≤ 2000000) (h3 : 1 ≤ l) (h4 : l ≤ 1000) : -2000000000 ≤ x * l ∧ x * l ≤ 2000000000 := mul_bd' 2000000 1000 2000000000 h1 h2 (by omega) h4 (by decide)
set_option maxRecDepth 100000 in
set_option maxHeartbeats 1000000 in
theorem impl_sternOf (bx bY hx hy l : Int) (h : isHu bx bY hx hy l = true) (w : World) :
    Calls Try.prog 78 #[.agg #[.int .i64 bx, .int .i64 bY, .int .i64 hx, .int .i64 hy, .int .i64 l]] w fun e w' => e = .returned (.agg #[.int .i64 (stn bx hx l (rt (hx * hx + hy * hy))), .int .i64 (stn bY hy l (rt (hx * hx + hy * hy)))]) ∧ Below w.heap.size w w' := by
  obtain ⟨hp, hh, l1, l2⟩ := isHu_t h
  obtain ⟨h1, h2, h3, h4, _⟩ := hd_sq hh
  obtain ⟨x1, x2, y1, y2, _⟩ := isHd_t hh
  obtain ⟨a1, a2, a3, a4⟩ := isPt_t hp
  obtain ⟨h5, h6⟩ := hl_bd x1 x2 l1 l2
  obtain ⟨h7, h8⟩ := hl_bd y1 y2 l1 l2
  have hr := (rt_hd hh).1
  obtain ⟨q1, q2⟩ := ediv_bd (c := 2000000000) hr (by omega) h5 h6
  obtain ⟨q3, q4⟩ := ediv_bd (c := 2000000000) hr (by omega) h7 h8
  clear h hp hh
  have b1 : -9000000000000000000 ≤ hx * l := by omega
  have b2 : hx * l ≤ 9000000000000000000 := by omega
  have b3 : -9000000000000000000 ≤ hy * l := by omega
  have b4 : hy * l ≤ 9000000000000000000 := by omega
  have h2' : hx * hx ≤ 4000000000000000000 := by omega
  have h4' : hy * hy ≤ 4000000000000000000 := by omega
  have e3 := hide (show IntKind.i64.wrap (bx - hx * l / rt (hx * hx + hy * hy)) = bx - hx * l / rt (hx * hx + hy * hy) from IntWalk.i64_in _ (by omega))
  have e4 := hide (show IntKind.i64.wrap (bY - hy * l / rt (hx * hx + hy * hy)) = bY - hy * l / rt (hx * hx + hy * hy) from IntWalk.i64_in _ (by omega))
  have e1 := hide (show IntKind.i64.wrap (hx * l) = hx * l from IntWalk.i64_in _ (by omega))
  have e2 := hide (show IntKind.i64.wrap (hy * l) = hy * l from IntWalk.i64_in _ (by omega))
  go_enter Try.func78, Try.ntmps78
  go_wp2_with (go_at_call 66; (with_reducible refine (impl_lengthOf _ _ h1 h2' h3 h4' _).mono ?_); rintro e w9 ⟨rfl, hb⟩; obtain ⟨hc, hf⟩ := bcell hb; have hz := hb.size; have z0 : w.heap.size < w9.heap.size := (by first | omega | (simp at hz; omega)); have z1 : w.heap.size + 1 < w9.heap.size := (by first | omega | (simp at hz; omega)))
  have f1 := e1.out
  have f2 := e2.out
  have f3 := e3.out
  have f4 := e4.out
  refine wp_region_still_tail 24 (by kernel_rfl) (by kernel_rfl) ?_
  simp only [List.take_succ_cons, List.take_zero, List.drop_succ_cons, List.drop_zero]
  repeat (first | still_step | (refine wpStill_step (fun K hK => ?_); go_simp; (with_reducible refine ⟨_, still_of (impl_floorDiv (hx * l) _ b1 b2 hr _), hK _ ?_⟩); clear hK K) | (refine wpStill_step (fun K hK => ?_); go_simp; (with_reducible refine ⟨_, still_of (impl_floorDiv (hy * l) _ b3 b4 hr _), hK _ ?_⟩); clear hK K))
  refine wpStill_nil ?_
  clear f1 f2 f3 f4
  change wpList _ _ _ _ _ w9.drew
  go_wp2
  simp [bodyPost, results, Try.results78, go_sem, *]
  exact ⟨⟨rfl, rfl⟩, (by repeat (first | with_reducible exact Below.refl _ _ | with_reducible assumption | with_reducible refine Below.drew ?_ | with_reducible refine below_drewN ?_ _ | with_reducible refine Below.setCell ?_ (by first | exact Nat.le_refl _ | (simp; done) | (simp; omega) | (dsimp only; omega)) _ | with_reducible refine Below.alloc ?_ (by first | exact Nat.le_refl _ | (simp; done) | (simp; omega) | (simp at *; omega)) _ | with_reducible refine bstep ?_ (by assumption)))⟩
set_option maxRecDepth 100000 in
set_option maxHeartbeats 1000000 in
theorem spec_l09Stern (bx bY hx hy l : Int) (h : isHu bx bY hx hy l = true) (w : World) :
    Calls Try.prog 79 #[.agg #[.int .i64 bx, .int .i64 bY, .int .i64 hx, .int .i64 hy, .int .i64 l]] w fun e w' => e = .returned (.agg #[.int .i64 (stn bx hx l (rt (hx * hx + hy * hy))), .int .i64 (stn bY hy l (rt (hx * hx + hy * hy)))]) ∧ Below w.heap.size w w' := by
  obtain ⟨hp, hh, l1, l2⟩ := isHu_t h
  obtain ⟨x1, x2, y1, y2, _⟩ := isHd_t hh
  obtain ⟨a1, a2, a3, a4⟩ := isPt_t hp
  obtain ⟨h5, h6⟩ := hl_bd x1 x2 l1 l2
  obtain ⟨h7, h8⟩ := hl_bd y1 y2 l1 l2
  have hr := (rt_hd hh).1
  obtain ⟨q1, q2⟩ := ediv_bd (c := 2000000000) hr (by omega) h5 h6
  obtain ⟨q3, q4⟩ := ediv_bd (c := 2000000000) hr (by omega) h7 h8
  clear h hp
  have b1 : -9000000000000000000 ≤ hx * l := by omega
  have b2 : hx * l ≤ 9000000000000000000 := by omega
  have b3 : -9000000000000000000 ≤ hy * l := by omega
  have b4 : hy * l ≤ 9000000000000000000 := by omega
  have e3 := hide (show IntKind.i64.wrap (bx - hx * l / rt (hx * hx + hy * hy)) = bx - hx * l / rt (hx * hx + hy * hy) from IntWalk.i64_in _ (by omega))
  have e4 := hide (show IntKind.i64.wrap (bY - hy * l / rt (hx * hx + hy * hy)) = bY - hy * l / rt (hx * hx + hy * hy) from IntWalk.i64_in _ (by omega))
  have e1 := hide (show IntKind.i64.wrap (hx * l) = hx * l from IntWalk.i64_in _ (by omega))
  have e2 := hide (show IntKind.i64.wrap (hy * l) = hy * l from IntWalk.i64_in _ (by omega))
  go_enter Try.func79, Try.ntmps79
  go_wp2_with (go_at_call 76; (with_reducible refine (spec_l09Norm _ _ _ _ _ hh _).mono ?_); rintro e w9 ⟨rfl, hb⟩; obtain ⟨hc, hf⟩ := bcell hb; have hz := hb.size; have z0 : w.heap.size < w9.heap.size := (by first | omega | (simp at hz; omega)); have z1 : w.heap.size + 1 < w9.heap.size := (by first | omega | (simp at hz; omega)))
  have f1 := e1.out
  have f2 := e2.out
  have f3 := e3.out
  have f4 := e4.out
  refine wp_region_still_tail 24 (by kernel_rfl) (by kernel_rfl) ?_
  simp only [List.take_succ_cons, List.take_zero, List.drop_succ_cons, List.drop_zero]
  repeat (first | still_step | (refine wpStill_step (fun K hK => ?_); go_simp; (with_reducible refine ⟨_, still_of (spec_l01Floor (hx * l) _ b1 b2 hr _), hK _ ?_⟩); clear hK K) | (refine wpStill_step (fun K hK => ?_); go_simp; (with_reducible refine ⟨_, still_of (spec_l01Floor (hy * l) _ b3 b4 hr _), hK _ ?_⟩); clear hK K))
  refine wpStill_nil ?_
  clear f1 f2 f3 f4
  change wpList _ _ _ _ _ w9.drew
  go_wp2
  simp [bodyPost, results, Try.results79, go_sem, *]
  exact ⟨⟨rfl, rfl⟩, (by repeat (first | with_reducible exact Below.refl _ _ | with_reducible assumption | with_reducible refine Below.drew ?_ | with_reducible refine below_drewN ?_ _ | with_reducible refine Below.setCell ?_ (by first | exact Nat.le_refl _ | (simp; done) | (simp; omega) | (dsimp only; omega)) _ | with_reducible refine Below.alloc ?_ (by first | exact Nat.le_refl _ | (simp; done) | (simp; omega) | (simp at *; omega)) _ | with_reducible refine bstep ?_ (by assumption)))⟩
set_option maxHeartbeats 1000000 in
theorem impl_SternOf (bx bY hx hy l : Int) (w : World) :
    Calls Try.prog 33 #[.agg #[.int .i64 bx, .int .i64 bY, .int .i64 hx, .int .i64 hy, .int .i64 l]] w fun e w' => e = .returned (.tuple #[.agg #[.int .i64 (sel (isHu bx bY hx hy l) (stn bx hx l (rt (hx * hx + hy * hy))) 0), .int .i64 (sel (isHu bx bY hx hy l) (stn bY hy l (rt (hx * hx + hy * hy))) 0)], .int .i64 (sel (isHu bx bY hx hy l) 0 1)]) ∧ Below w.heap.size w w' := by
  rcases b2 (isHu bx bY hx hy l) with g1 | g1
  all_goals
    go_enter Try.func33, Try.ntmps33
    go_wp2_with (first | (go_at_call 77; (with_reducible refine (impl_IsHull _ _ _ _ _ _).mono ?_); rintro e w9 ⟨rfl, hb⟩; obtain ⟨hc, hf⟩ := bcell hb; have hz := hb.size; have z0 : w.heap.size < w9.heap.size := (by first | omega | (simp at hz; omega)); have z1 : w.heap.size + 1 < w9.heap.size := (by first | omega | (simp at hz; omega))) | (go_at_call 78; (with_reducible refine (impl_sternOf _ _ _ _ _ g1 _).mono ?_); rintro e w9 ⟨rfl, hb⟩; obtain ⟨hc, hf⟩ := bcell hb; have hz := hb.size; have z0 : w.heap.size < w9.heap.size := (by first | omega | (simp at hz; omega)); have z1 : w.heap.size + 1 < w9.heap.size := (by first | omega | (simp at hz; omega))))
    simp [bodyPost, results, Try.results33, go_sem, *]
    exact ⟨by simp [sel], (by repeat (first | with_reducible exact Below.refl _ _ | with_reducible assumption | with_reducible refine Below.drew ?_ | with_reducible refine below_drewN ?_ _ | with_reducible refine Below.setCell ?_ (by first | exact Nat.le_refl _ | (simp; done) | (simp; omega) | (dsimp only; omega)) _ | with_reducible refine Below.alloc ?_ (by first | exact Nat.le_refl _ | (simp; done) | (simp; omega) | (simp at *; omega)) _ | with_reducible refine bstep ?_ (by assumption)))⟩
set_option maxHeartbeats 1000000 in
theorem spec_SternOf (bx bY hx hy l : Int) (w : World) :
    Calls Try.prog 34 #[.agg #[.int .i64 bx, .int .i64 bY, .int .i64 hx, .int .i64 hy, .int .i64 l]] w fun e w' => e = .returned (.tuple #[.agg #[.int .i64 (sel (isHu bx bY hx hy l) (stn bx hx l (rt (hx * hx + hy * hy))) 0), .int .i64 (sel (isHu bx bY hx hy l) (stn bY hy l (rt (hx * hx + hy * hy))) 0)], .int .i64 (sel (isHu bx bY hx hy l) 0 1)]) ∧ Below w.heap.size w w' := by
  rcases b2 (isHu bx bY hx hy l) with g1 | g1
  all_goals
    go_enter Try.func34, Try.ntmps34
    go_wp2_with (first | (go_at_call 54; (with_reducible refine (spec_IsHull _ _ _ _ _ _).mono ?_); rintro e w9 ⟨rfl, hb⟩; obtain ⟨hc, hf⟩ := bcell hb; have hz := hb.size; have z0 : w.heap.size < w9.heap.size := (by first | omega | (simp at hz; omega)); have z1 : w.heap.size + 1 < w9.heap.size := (by first | omega | (simp at hz; omega))) | (go_at_call 79; (with_reducible refine (spec_l09Stern _ _ _ _ _ g1 _).mono ?_); rintro e w9 ⟨rfl, hb⟩; obtain ⟨hc, hf⟩ := bcell hb; have hz := hb.size; have z0 : w.heap.size < w9.heap.size := (by first | omega | (simp at hz; omega)); have z1 : w.heap.size + 1 < w9.heap.size := (by first | omega | (simp at hz; omega))))
    simp [bodyPost, results, Try.results34, go_sem, *]
    exact ⟨by simp [sel], (by repeat (first | with_reducible exact Below.refl _ _ | with_reducible assumption | with_reducible refine Below.drew ?_ | with_reducible refine below_drewN ?_ _ | with_reducible refine Below.setCell ?_ (by first | exact Nat.le_refl _ | (simp; done) | (simp; omega) | (dsimp only; omega)) _ | with_reducible refine Below.alloc ?_ (by first | exact Nat.le_refl _ | (simp; done) | (simp; omega) | (simp at *; omega)) _ | with_reducible refine bstep ?_ (by assumption)))⟩
/-- The gap behind a hull. -/
def gapI (ax ay hx hy l bx bY : Int) : Int := -ahd ax ay hx hy bx bY / rt (hx * hx + hy * hy) - l
theorem gap_bd {ax ay hx hy l bx bY ix iy m : Int} (h1 : isHu ax ay hx hy l = true) (h2 : isHu bx bY ix iy m = true) :
    -8000000000000 ≤ -ahd ax ay hx hy bx bY ∧ -ahd ax ay hx hy bx bY ≤ 8000000000000 ∧ -8000000000000 ≤ -ahd ax ay hx hy bx bY / rt (hx * hx + hy * hy) ∧ -ahd ax ay hx hy bx bY / rt (hx * hx + hy * hy) ≤ 8000000000000 := by
  obtain ⟨_, _, d1, d2⟩ := ahd_bd (isHu_t h1).1 (isHu_t h1).2.1 (isHu_t h2).1
  have hr := (rt_hd (isHu_t h1).2.1).1
  obtain ⟨q1, q2⟩ := ediv_bd (a := -ahd ax ay hx hy bx bY) (c := 8000000000000) hr (by omega) (by omega) (by omega)
  exact ⟨by omega, by omega, q1, q2⟩
set_option maxHeartbeats 1000000 in
theorem impl_GapBehind (ax ay hx hy l bx bY ix iy m : Int) (w : World) :
    Calls Try.prog 31 #[.agg #[.int .i64 ax, .int .i64 ay, .int .i64 hx, .int .i64 hy, .int .i64 l], .agg #[.int .i64 bx, .int .i64 bY, .int .i64 ix, .int .i64 iy, .int .i64 m]] w fun e w' => e = .returned (.tuple #[.int .i64 (sel (isHu ax ay hx hy l && isHu bx bY ix iy m) (gapI ax ay hx hy l bx bY) 0), .int .i64 (sel (isHu ax ay hx hy l && isHu bx bY ix iy m) 0 1)]) ∧ Below w.heap.size w w' := by
  rcases b3 (isHu ax ay hx hy l) (isHu bx bY ix iy m) with g1 | ⟨g1, g2⟩ | ⟨g1, g2⟩
  · go_enter Try.func31, Try.ntmps31
    go_wp2_with (go_at_call 52; (with_reducible refine (impl_areHulls _ _ _ _ _ _ _ _ _ _ _).mono ?_); rintro e w9 ⟨rfl, hb⟩; obtain ⟨hc, hf⟩ := bcell hb; have hz := hb.size; have z0 : w.heap.size < w9.heap.size := (by first | omega | (simp at hz; omega)); have z1 : w.heap.size + 1 < w9.heap.size := (by first | omega | (simp at hz; omega)))
    go_ret2
    exact ⟨by simp [sel, *], (by repeat (first | with_reducible exact Below.refl _ _ | with_reducible assumption | with_reducible refine Below.drew ?_ | with_reducible refine below_drewN ?_ _ | with_reducible refine Below.setCell ?_ (by first | exact Nat.le_refl _ | (simp; done) | (simp; omega) | (dsimp only; omega)) _ | with_reducible refine Below.alloc ?_ (by first | exact Nat.le_refl _ | (simp; done) | (simp; omega) | (simp at *; omega)) _ | with_reducible refine bstep ?_ (by assumption)))⟩
  · go_enter Try.func31, Try.ntmps31
    go_wp2_with (go_at_call 52; (with_reducible refine (impl_areHulls _ _ _ _ _ _ _ _ _ _ _).mono ?_); rintro e w9 ⟨rfl, hb⟩; obtain ⟨hc, hf⟩ := bcell hb; have hz := hb.size; have z0 : w.heap.size < w9.heap.size := (by first | omega | (simp at hz; omega)); have z1 : w.heap.size + 1 < w9.heap.size := (by first | omega | (simp at hz; omega)))
    go_ret2
    exact ⟨by simp [sel, *], (by repeat (first | with_reducible exact Below.refl _ _ | with_reducible assumption | with_reducible refine Below.drew ?_ | with_reducible refine below_drewN ?_ _ | with_reducible refine Below.setCell ?_ (by first | exact Nat.le_refl _ | (simp; done) | (simp; omega) | (dsimp only; omega)) _ | with_reducible refine Below.alloc ?_ (by first | exact Nat.le_refl _ | (simp; done) | (simp; omega) | (simp at *; omega)) _ | with_reducible refine bstep ?_ (by assumption)))⟩
  · obtain ⟨d1, d2, d3, d4⟩ := gap_bd g1 g2
    obtain ⟨_, hh, l1, l2⟩ := isHu_t g1
    obtain ⟨h1, h2, h3, h4, _⟩ := hd_sq hh
    have hr := (rt_hd hh).1
    have n1 : -9000000000000000000 ≤ -ahd ax ay hx hy bx bY := by omega
    have n2 : -ahd ax ay hx hy bx bY ≤ 9000000000000000000 := by omega
    have h2' : hx * hx ≤ 4000000000000000000 := by omega
    have h4' : hy * hy ≤ 4000000000000000000 := by omega
    have e1 := hide (show IntKind.i64.wrap (-ahd ax ay hx hy bx bY) = -ahd ax ay hx hy bx bY from IntWalk.i64_in _ (by omega))
    have e2 := hide (show IntKind.i64.wrap (-ahd ax ay hx hy bx bY / rt (hx * hx + hy * hy) - l) = -ahd ax ay hx hy bx bY / rt (hx * hx + hy * hy) - l from IntWalk.i64_in _ (by omega))
    go_enter Try.func31, Try.ntmps31
    go_wp2_with (go_at_call 52; (with_reducible refine (impl_areHulls _ _ _ _ _ _ _ _ _ _ _).mono ?_); rintro e w9 ⟨rfl, hb⟩; obtain ⟨hc, hf⟩ := bcell hb; have hz := hb.size; have z0 : w.heap.size < w9.heap.size := (by first | omega | (simp at hz; omega)); have z1 : w.heap.size + 1 < w9.heap.size := (by first | omega | (simp at hz; omega)))
    have f1 := e1.out
    have f2 := e2.out
    go_region_held3 (fun W => W.cell? ⟨w.heap.size, 0, none⟩ = some (.int .i64 ax) ∧ W.cell? ⟨w.heap.size, 1, none⟩ = some (.int .i64 ay) ∧ W.cell? ⟨w.heap.size, 2, none⟩ = some (.int .i64 hx) ∧ W.cell? ⟨w.heap.size, 3, none⟩ = some (.int .i64 hy) ∧ W.cell? ⟨w.heap.size, 4, none⟩ = some (.int .i64 l) ∧ W.cell? ⟨w.heap.size + 1, 0, none⟩ = some (.int .i64 bx) ∧ W.cell? ⟨w.heap.size + 1, 1, none⟩ = some (.int .i64 bY) ∧ W.cell? ⟨w.heap.size + 1, 2, none⟩ = some (.int .i64 ix) ∧ W.cell? ⟨w.heap.size + 1, 3, none⟩ = some (.int .i64 iy) ∧ W.cell? ⟨w.heap.size + 1, 4, none⟩ = some (.int .i64 m) ∧ Below w.heap.size w W ∧ w.heap.size + 2 ≤ W.heap.size)
    (first | (obtain ⟨k1, k2, k3, k4, k5, k6, k7, k8, k9, k10, kB, kz⟩ := ‹_ ∧ _›; exact ⟨cell_later hb k1, cell_later hb k2, cell_later hb k3, cell_later hb k4, cell_later hb k5, cell_later hb k6, cell_later hb k7, cell_later hb k8, cell_later hb k9, cell_later hb k10, bstep kB hb, bsize kz hb⟩) | (obtain ⟨k1, k2, k3, k4, k5, k6, k7, k8, k9, k10, kB, kz⟩ := ‹_ ∧ _›; exact ⟨k1, k2, k3, k4, k5, k6, k7, k8, k9, k10, kB, kz⟩) | (exact ⟨(by go_simp; done), (by go_simp; done), (by go_simp; done), (by go_simp; done), (by go_simp; done), (by go_simp; done), (by go_simp; done), (by go_simp; done), (by go_simp; done), (by go_simp; done), (by repeat (first | with_reducible exact Below.refl _ _ | with_reducible assumption | with_reducible refine Below.drew ?_ | with_reducible refine below_drewN ?_ _ | with_reducible refine Below.setCell ?_ (by first | exact Nat.le_refl _ | (simp; done) | (simp; omega) | (dsimp only; omega)) _ | with_reducible refine Below.alloc ?_ (by first | exact Nat.le_refl _ | (simp; done) | (simp; omega) | (simp at *; omega)) _ | with_reducible refine bstep ?_ (by assumption))), (by first | (simp; done) | (simp; omega) | omega)⟩))
     (first | (go_at_call 74; (with_reducible refine (impl_ahead _ _ _ _ _ _ _ _ _ _ g1 g2 _).mono ?_); rintro e w9 ⟨rfl, hb⟩; have hzz := hb.size; (try simp at hzz)) | (go_at_call 66; (with_reducible refine (impl_lengthOf _ _ h1 h2' h3 h4' _).mono ?_); rintro e w9 ⟨rfl, hb⟩; have hzz := hb.size; (try simp at hzz)) | (go_at_call 64; (with_reducible refine (impl_floorDiv _ _ n1 n2 hr _).mono ?_); rintro e w9 ⟨rfl, rfl⟩))
    clear f1 f2
    obtain ⟨k1, k2, k3, k4, k5, k6, k7, k8, k9, k10, kB, kz⟩ := ‹_ ∧ _›
    go_wp2
    go_ret2
    exact ⟨by simp [sel, gapI, *], kB⟩
set_option maxHeartbeats 1000000 in
theorem spec_GapBehind (ax ay hx hy l bx bY ix iy m : Int) (w : World) :
    Calls Try.prog 32 #[.agg #[.int .i64 ax, .int .i64 ay, .int .i64 hx, .int .i64 hy, .int .i64 l], .agg #[.int .i64 bx, .int .i64 bY, .int .i64 ix, .int .i64 iy, .int .i64 m]] w fun e w' => e = .returned (.tuple #[.int .i64 (sel (isHu ax ay hx hy l && isHu bx bY ix iy m) (gapI ax ay hx hy l bx bY) 0), .int .i64 (sel (isHu ax ay hx hy l && isHu bx bY ix iy m) 0 1)]) ∧ Below w.heap.size w w' := by
  rcases b3 (isHu ax ay hx hy l) (isHu bx bY ix iy m) with g1 | ⟨g1, g2⟩ | ⟨g1, g2⟩
  · go_enter Try.func32, Try.ntmps32
    go_wp2_with (go_at_call 54; (with_reducible refine (spec_IsHull _ _ _ _ _ _).mono ?_); rintro e w9 ⟨rfl, hb⟩; obtain ⟨hc, hf⟩ := bcell hb; have hz := hb.size; have z0 : w.heap.size < w9.heap.size := (by first | omega | (simp at hz; omega)); have z1 : w.heap.size + 1 < w9.heap.size := (by first | omega | (simp at hz; omega)))
    go_ret2
    exact ⟨by simp [sel, *], (by repeat (first | with_reducible exact Below.refl _ _ | with_reducible assumption | with_reducible refine Below.drew ?_ | with_reducible refine below_drewN ?_ _ | with_reducible refine Below.setCell ?_ (by first | exact Nat.le_refl _ | (simp; done) | (simp; omega) | (dsimp only; omega)) _ | with_reducible refine Below.alloc ?_ (by first | exact Nat.le_refl _ | (simp; done) | (simp; omega) | (simp at *; omega)) _ | with_reducible refine bstep ?_ (by assumption)))⟩
  · go_enter Try.func32, Try.ntmps32
    go_wp2_with (go_at_call 54; (with_reducible refine (spec_IsHull _ _ _ _ _ _).mono ?_); rintro e w9 ⟨rfl, hb⟩; obtain ⟨hc, hf⟩ := bcell hb; have hz := hb.size; have z0 : w.heap.size < w9.heap.size := (by first | omega | (simp at hz; omega)); have z1 : w.heap.size + 1 < w9.heap.size := (by first | omega | (simp at hz; omega)))
    go_ret2
    exact ⟨by simp [sel, *], (by repeat (first | with_reducible exact Below.refl _ _ | with_reducible assumption | with_reducible refine Below.drew ?_ | with_reducible refine below_drewN ?_ _ | with_reducible refine Below.setCell ?_ (by first | exact Nat.le_refl _ | (simp; done) | (simp; omega) | (dsimp only; omega)) _ | with_reducible refine Below.alloc ?_ (by first | exact Nat.le_refl _ | (simp; done) | (simp; omega) | (simp at *; omega)) _ | with_reducible refine bstep ?_ (by assumption)))⟩
  · obtain ⟨d1, d2, d3, d4⟩ := gap_bd g1 g2
    obtain ⟨_, hh, l1, l2⟩ := isHu_t g1
    have hr := (rt_hd hh).1
    have n1 : -9000000000000000000 ≤ -ahd ax ay hx hy bx bY := by omega
    have n2 : -ahd ax ay hx hy bx bY ≤ 9000000000000000000 := by omega
    have e1 := hide (show IntKind.i64.wrap (-ahd ax ay hx hy bx bY) = -ahd ax ay hx hy bx bY from IntWalk.i64_in _ (by omega))
    have e2 := hide (show IntKind.i64.wrap (-ahd ax ay hx hy bx bY / rt (hx * hx + hy * hy) - l) = -ahd ax ay hx hy bx bY / rt (hx * hx + hy * hy) - l from IntWalk.i64_in _ (by omega))
    go_enter Try.func32, Try.ntmps32
    go_wp2_with (go_at_call 54; (with_reducible refine (spec_IsHull _ _ _ _ _ _).mono ?_); rintro e w9 ⟨rfl, hb⟩; obtain ⟨hc, hf⟩ := bcell hb; have hz := hb.size; have z0 : w.heap.size < w9.heap.size := (by first | omega | (simp at hz; omega)); have z1 : w.heap.size + 1 < w9.heap.size := (by first | omega | (simp at hz; omega)))
    have f1 := e1.out
    have f2 := e2.out
    go_region_held3 (fun W => W.cell? ⟨w.heap.size, 0, none⟩ = some (.int .i64 ax) ∧ W.cell? ⟨w.heap.size, 1, none⟩ = some (.int .i64 ay) ∧ W.cell? ⟨w.heap.size, 2, none⟩ = some (.int .i64 hx) ∧ W.cell? ⟨w.heap.size, 3, none⟩ = some (.int .i64 hy) ∧ W.cell? ⟨w.heap.size, 4, none⟩ = some (.int .i64 l) ∧ W.cell? ⟨w.heap.size + 1, 0, none⟩ = some (.int .i64 bx) ∧ W.cell? ⟨w.heap.size + 1, 1, none⟩ = some (.int .i64 bY) ∧ W.cell? ⟨w.heap.size + 1, 2, none⟩ = some (.int .i64 ix) ∧ W.cell? ⟨w.heap.size + 1, 3, none⟩ = some (.int .i64 iy) ∧ W.cell? ⟨w.heap.size + 1, 4, none⟩ = some (.int .i64 m) ∧ Below w.heap.size w W ∧ w.heap.size + 2 ≤ W.heap.size)
    (first | (obtain ⟨k1, k2, k3, k4, k5, k6, k7, k8, k9, k10, kB, kz⟩ := ‹_ ∧ _›; exact ⟨cell_later hb k1, cell_later hb k2, cell_later hb k3, cell_later hb k4, cell_later hb k5, cell_later hb k6, cell_later hb k7, cell_later hb k8, cell_later hb k9, cell_later hb k10, bstep kB hb, bsize kz hb⟩) | (obtain ⟨k1, k2, k3, k4, k5, k6, k7, k8, k9, k10, kB, kz⟩ := ‹_ ∧ _›; exact ⟨k1, k2, k3, k4, k5, k6, k7, k8, k9, k10, kB, kz⟩) | (exact ⟨(by go_simp; done), (by go_simp; done), (by go_simp; done), (by go_simp; done), (by go_simp; done), (by go_simp; done), (by go_simp; done), (by go_simp; done), (by go_simp; done), (by go_simp; done), (by repeat (first | with_reducible exact Below.refl _ _ | with_reducible assumption | with_reducible refine Below.drew ?_ | with_reducible refine below_drewN ?_ _ | with_reducible refine Below.setCell ?_ (by first | exact Nat.le_refl _ | (simp; done) | (simp; omega) | (dsimp only; omega)) _ | with_reducible refine Below.alloc ?_ (by first | exact Nat.le_refl _ | (simp; done) | (simp; omega) | (simp at *; omega)) _ | with_reducible refine bstep ?_ (by assumption))), (by first | (simp; done) | (simp; omega) | omega)⟩))
     (first | (go_at_call 75; (with_reducible refine (spec_l09Along _ _ _ _ _ _ _ _ _ _ g1 g2 _).mono ?_); rintro e w9 ⟨rfl, hb⟩; have hzz := hb.size; (try simp at hzz)) | (go_at_call 76; (with_reducible refine (spec_l09Norm _ _ _ _ _ hh _).mono ?_); rintro e w9 ⟨rfl, hb⟩; have hzz := hb.size; (try simp at hzz)) | (go_at_call 69; (with_reducible refine (spec_l01Floor _ _ n1 n2 hr _).mono ?_); rintro e w9 ⟨rfl, rfl⟩))
    clear f1 f2
    obtain ⟨k1, k2, k3, k4, k5, k6, k7, k8, k9, k10, kB, kz⟩ := ‹_ ∧ _›
    go_wp2
    go_ret2
    exact ⟨by simp [sel, gapI, *], kB⟩
end Go.Proofs.Ytkhapajjbomknaa
