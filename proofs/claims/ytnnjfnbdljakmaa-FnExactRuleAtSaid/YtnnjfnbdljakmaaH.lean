/- Walks: sterns, gaps, gains to windward. -/
import Derived.Test.YtnnjfnbdljakmaaG
namespace Go.Proofs.Ytnnjfnbdljakmaa
open Go.RowKit

/-- A coordinate of the stern. -/
def stn (b h l n : Int) : Int := b - h * l / n
theorem rt_hd {x y : Int} (h : isHd x y = true) : 1 ≤ rt (x * x + y * y) ∧ rt (x * x + y * y) ≤ 3000000 := by
  obtain ⟨q1, q2, q3, q4, q5⟩ := hd_sq h
  exact ⟨rt_pos q5, rt_le (by omega) (by omega) (by omega)⟩
theorem hl_bd {x l : Int} (h1 : -2000000 ≤ x) (h2 : x ≤ 2000000) (h3 : 1 ≤ l) (h4 : l ≤ 1000) : -2000000000 ≤ x * l ∧ x * l ≤ 2000000000 := mul_bd' 2000000 1000 2000000000 h1 h2 (by omega) h4 (by decide)
set_option maxRecDepth 100000 in
set_option maxHeartbeats 1000000 in
theorem impl_sternOf (bx bY hx hy l : Int) (h : isHu bx bY hx hy l = true) (w : World) :
    Calls Try.prog 95 #[.agg #[.int .i64 bx, .int .i64 bY, .int .i64 hx, .int .i64 hy, .int .i64 l]] w fun e w' => e = .returned (.agg #[.int .i64 (stn bx hx l (rt (hx * hx + hy * hy))), .int .i64 (stn bY hy l (rt (hx * hx + hy * hy)))]) ∧ Below w.heap.size w w' := by
  obtain ⟨hp, hh, l1, l2⟩ := isHu_t h
  obtain ⟨h1, h2, h3, h4, _⟩ := hd_sq hh
  obtain ⟨x1, x2, y1, y2, _⟩ := isHd_t hh
  obtain ⟨a1, a2, a3, a4⟩ := isPt_t hp
  obtain ⟨h5, h6⟩ := hl_bd x1 x2 l1 l2
  obtain ⟨h7, h8⟩ := hl_bd y1 y2 l1 l2
  have hr := (rt_hd hh).1
  obtain ⟨q1, q2⟩ := ediv_bd (c := 2000000000) hr (by omega) h5 h6
  obtain ⟨q3, q4⟩ := ediv_bd (c := 2000000000) hr (by omega) h7 h8
  clear h hp hh
  have b1 : -9000000000000000000 ≤ hx * l := by omega
  have b2 : hx * l ≤ 9000000000000000000 := by omega
  have b3 : -9000000000000000000 ≤ hy * l := by omega
  have b4 : hy * l ≤ 9000000000000000000 := by omega
  have h2' : hx * hx ≤ 4000000000000000000 := by omega
  have h4' : hy * hy ≤ 4000000000000000000 := by omega
  have e3 := hide (show IntKind.i64.wrap (bx - hx * l / rt (hx * hx + hy * hy)) = bx - hx * l / rt (hx * hx + hy * hy) from IntWalk.i64_in _ (by omega))
  have e4 := hide (show IntKind.i64.wrap (bY - hy * l / rt (hx * hx + hy * hy)) = bY - hy * l / rt (hx * hx + hy * hy) from IntWalk.i64_in _ (by omega))
  have e1 := hide (show IntKind.i64.wrap (hx * l) = hx * l from IntWalk.i64_in _ (by omega))
  have e2 := hide (show IntKind.i64.wrap (hy * l) = hy * l from IntWalk.i64_in _ (by omega))
  go_enter Try.func95, Try.ntmps95
  go_wp2_with (go_at_call 144; (with_reducible refine (impl_lengthOf _ _ h1 h2' h3 h4' _).mono ?_); rintro e w9 ⟨rfl, hb⟩; obtain ⟨hc, hf⟩ := bcell hb; have hz := hb.size; have z0 : w.heap.size < w9.heap.size := (by first | omega | (simp at hz; omega)); have z1 : w.heap.size + 1 < w9.heap.size := (by first | omega | (simp at hz; omega)))
  have f1 := e1.out
  have f2 := e2.out
  have f3 := e3.out
  have f4 := e4.out
  refine wp_region_still_tail 24 (by kernel_rfl) (by kernel_rfl) ?_
  simp only [List.take_succ_cons, List.take_zero, List.drop_succ_cons, List.drop_zero]
  repeat (first | still_step | (refine wpStill_step (fun K hK => ?_); go_simp; (with_reducible refine ⟨_, still_of (impl_floorDiv (hx * l) _ b1 b2 hr _), hK _ ?_⟩); clear hK K) | (refine wpStill_step (fun K hK => ?_); go_simp; (with_reducible refine ⟨_, still_of (impl_floorDiv (hy * l) _ b3 b4 hr _), hK _ ?_⟩); clear hK K))
  refine wpStill_nil ?_
  clear f1 f2 f3 f4
  change wpList _ _ _ _ _ w9.drew
  go_wp2
  simp [bodyPost, results, Try.results95, go_sem, *]
  exact ⟨⟨rfl, rfl⟩, (by repeat (first | with_reducible exact Below.refl _ _ | with_reducible assumption | with_reducible refine Below.drew ?_ | with_reducible refine below_drewN ?_ _ | with_reducible refine Below.setCell ?_ (by first | exact Nat.le_refl _ | (simp; done) | (simp; omega) | (dsimp only; omega)) _ | with_reducible refine Below.alloc ?_ (by first | exact Nat.le_refl _ | (simp; done) | (simp; omega) | (simp at *; omega)) _ | with_reducible refine bstep ?_ (by assumption)))⟩
set_option maxRecDepth 100000 in
set_option maxHeartbeats 1000000 in
theorem spec_l09Stern (bx bY hx hy l : Int) (h : isHu bx bY hx hy l = true) (w : World) :
    Calls Try.prog 91 #[.agg #[.int .i64 bx, .int .i64 bY, .int .i64 hx, .int .i64 hy, .int .i64 l]] w fun e w' => e = .returned (.agg #[.int .i64 (stn bx hx l (rt (hx * hx + hy * hy))), .int .i64 (stn bY hy l (rt (hx * hx + hy * hy)))]) ∧ Below w.heap.size w w' := by
  obtain ⟨hp, hh, l1, l2⟩ := isHu_t h
  obtain ⟨x1, x2, y1, y2, _⟩ := isHd_t hh
  obtain ⟨a1, a2, a3, a4⟩ := isPt_t hp
  obtain ⟨h5, h6⟩ := hl_bd x1 x2 l1 l2
  obtain ⟨h7, h8⟩ := hl_bd y1 y2 l1 l2
  have hr := (rt_hd hh).1
  obtain ⟨q1, q2⟩ := ediv_bd (c := 2000000000) hr (by omega) h5 h6
  obtain ⟨q3, q4⟩ := ediv_bd (c := 2000000000) hr (by omega) h7 h8
  clear h hp
  have b1 : -9000000000000000000 ≤ hx * l := by omega
  have b2 : hx * l ≤ 9000000000000000000 := by omega
  have b3 : -9000000000000000000 ≤ hy * l := by omega
  have b4 : hy * l ≤ 9000000000000000000 := by omega
  have e3 := hide (show IntKind.i64.wrap (bx - hx * l / rt (hx * hx + hy * hy)) = bx - hx * l / rt (hx * hx + hy * hy) from IntWalk.i64_in _ (by omega))
  have e4 := hide (show IntKind.i64.wrap (bY - hy * l / rt (hx * hx + hy * hy)) = bY - hy * l / rt (hx * hx + hy * hy) from IntWalk.i64_in _ (by omega))
  have e1 := hide (show IntKind.i64.wrap (hx * l) = hx * l from IntWalk.i64_in _ (by omega))
  have e2 := hide (show IntKind.i64.wrap (hy * l) = hy * l from IntWalk.i64_in _ (by omega))
  go_enter Try.func91, Try.ntmps91
  go_wp2_with (go_at_call 136; (with_reducible refine (spec_l09Norm _ _ _ _ _ hh _).mono ?_); rintro e w9 ⟨rfl, hb⟩; obtain ⟨hc, hf⟩ := bcell hb; have hz := hb.size; have z0 : w.heap.size < w9.heap.size := (by first | omega | (simp at hz; omega)); have z1 : w.heap.size + 1 < w9.heap.size := (by first | omega | (simp at hz; omega)))
  have f1 := e1.out
  have f2 := e2.out
  have f3 := e3.out
  have f4 := e4.out
  refine wp_region_still_tail 24 (by kernel_rfl) (by kernel_rfl) ?_
  simp only [List.take_succ_cons, List.take_zero, List.drop_succ_cons, List.drop_zero]
  repeat (first | still_step | (refine wpStill_step (fun K hK => ?_); go_simp; (with_reducible refine ⟨_, still_of (spec_l01Floor (hx * l) _ b1 b2 hr _), hK _ ?_⟩); clear hK K) | (refine wpStill_step (fun K hK => ?_); go_simp; (with_reducible refine ⟨_, still_of (spec_l01Floor (hy * l) _ b3 b4 hr _), hK _ ?_⟩); clear hK K))
  refine wpStill_nil ?_
  clear f1 f2 f3 f4
  change wpList _ _ _ _ _ w9.drew
  go_wp2
  simp [bodyPost, results, Try.results91, go_sem, *]
  exact ⟨⟨rfl, rfl⟩, (by repeat (first | with_reducible exact Below.refl _ _ | with_reducible assumption | with_reducible refine Below.drew ?_ | with_reducible refine below_drewN ?_ _ | with_reducible refine Below.setCell ?_ (by first | exact Nat.le_refl _ | (simp; done) | (simp; omega) | (dsimp only; omega)) _ | with_reducible refine Below.alloc ?_ (by first | exact Nat.le_refl _ | (simp; done) | (simp; omega) | (simp at *; omega)) _ | with_reducible refine bstep ?_ (by assumption)))⟩
/-- The gap behind a hull. -/
def gapI (ax ay hx hy l bx bY : Int) : Int := -ahd ax ay hx hy bx bY / rt (hx * hx + hy * hy) - l
theorem gap_bd {ax ay hx hy l bx bY ix iy m : Int} (h1 : isHu ax ay hx hy l = true) (h2 : isHu bx bY ix iy m = true) :
    -8000000000000 ≤ -ahd ax ay hx hy bx bY ∧ -ahd ax ay hx hy bx bY ≤ 8000000000000 ∧ -8000000000000 ≤ -ahd ax ay hx hy bx bY / rt (hx * hx + hy * hy) ∧ -ahd ax ay hx hy bx bY / rt (hx * hx + hy * hy) ≤ 8000000000000 := by
  obtain ⟨_, _, d1, d2⟩ := ahd_bd (isHu_t h1).1 (isHu_t h1).2.1 (isHu_t h2).1
  have hr := (rt_hd (isHu_t h1).2.1).1
  obtain ⟨q1, q2⟩ := ediv_bd (a := -ahd ax ay hx hy bx bY) (c := 8000000000000) hr (by omega) (by omega) (by omega)
  exact ⟨by omega, by omega, q1, q2⟩
end Go.Proofs.Ytnnjfnbdljakmaa
