/- Walks: gains to windward; the ruling for two boats. -/
import Derived.Test.YtkhapajjbomknaaB
import Derived.Test.YtkhapajjbomknaaH
import Derived.Test.YtkhapajjbomknaaBs
namespace Go.Proofs.Ytkhapajjbomknaa
open Go.RowKit

/-- What is gained to windward. -/
def wgI (wx wy px py qx qy : Int) : Int := -((qx - px) * wx + (qy - py) * wy) / rt (wx * wx + wy * wy)
theorem wg_bd {wx wy px py qx qy : Int} (h1 : isWd wx wy = true) (h2 : isPt px py = true) (h3 : isPt qx qy = true) :
    Bd ((qx - px) * wx) ∧ Bd ((qy - py) * wy) ∧ -4000000000 ≤ (qx - px) * wx + (qy - py) * wy ∧ (qx - px) * wx + (qy - py) * wy ≤ 4000000000 ∧
    0 ≤ wx * wx ∧ wx * wx ≤ 1000000 ∧ 0 ≤ wy * wy ∧ wy * wy ≤ 1000000 ∧ 1 ≤ rt (wx * wx + wy * wy) := by
  obtain ⟨w1, w2, w3, w4, w5⟩ := isWd_t h1
  obtain ⟨a1, a2, a3, a4⟩ := isPt_t h2
  obtain ⟨b1, b2, b3, b4⟩ := isPt_t h3
  have k1 := mul_bd' (a := qx - px) (b := wx) 2000000 1000 2000000000 (by omega) (by omega) w1 w2 (by decide)
  have k2 := mul_bd' (a := qy - py) (b := wy) 2000000 1000 2000000000 (by omega) (by omega) w3 w4 (by decide)
  have hh : isHd wx wy = true := by simp [isHd, inB]; omega
  have k3 := sqr_bd 1000 1000000 w1 w2 (by decide)
  have k4 := sqr_bd 1000 1000000 w3 w4 (by decide)
  exact ⟨⟨by omega, by omega⟩, ⟨by omega, by omega⟩, by omega, by omega, k3.1, k3.2, k4.1, k4.2, (rt_hd hh).1⟩
set_option maxHeartbeats 1000000 in
theorem impl_WindwardGain (wx wy px py qx qy : Int) (w : World) :
    Calls Try.prog 24 #[.agg #[.int .i64 wx, .int .i64 wy], .agg #[.int .i64 px, .int .i64 py], .agg #[.int .i64 qx, .int .i64 qy]] w fun e w' => e = .returned (.tuple #[.int .i64 (sel (isWd wx wy && isPt px py && isPt qx qy) (wgI wx wy px py qx qy) 0), .int .i64 (sel (isWd wx wy && isPt px py && isPt qx qy) 0 1)]) ∧ Below w.heap.size w w' := by
  rcases b4 (isWd wx wy) (isPt px py) (isPt qx qy) with g1 | ⟨g1, g2⟩ | ⟨g1, g2, g3⟩ | ⟨g1, g2, g3⟩
  · go_enter Try.func24, Try.ntmps24
    go_wp2_with (first | (go_at_call 44; (with_reducible refine (impl_IsWind _ _ _).mono ?_); rintro e w9 ⟨rfl, hb⟩; obtain ⟨hc, hf⟩ := bcell hb; have hz := hb.size; have z0 : w.heap.size < w9.heap.size := (by first | omega | (simp at hz; omega)); have z1 : w.heap.size + 1 < w9.heap.size := (by first | omega | (simp at hz; omega)); have z2 : w.heap.size + 1 + 1 < w9.heap.size := (by first | omega | (simp at hz; omega))) | (go_at_call 58; (with_reducible refine (impl_IsPoint _ _ _).mono ?_); rintro e w9 ⟨rfl, hb⟩; obtain ⟨hc, hf⟩ := bcell hb; have hz := hb.size; have z0 : w.heap.size < w9.heap.size := (by first | omega | (simp at hz; omega)); have z1 : w.heap.size + 1 < w9.heap.size := (by first | omega | (simp at hz; omega)); have z2 : w.heap.size + 1 + 1 < w9.heap.size := (by first | omega | (simp at hz; omega))))
    go_ret2
    exact ⟨by simp [sel, *], (by repeat (first | with_reducible exact Below.refl _ _ | with_reducible assumption | with_reducible refine Below.drew ?_ | with_reducible refine below_drewN ?_ _ | with_reducible refine Below.setCell ?_ (by first | exact Nat.le_refl _ | (simp; done) | (simp; omega) | (dsimp only; omega)) _ | with_reducible refine Below.alloc ?_ (by first | exact Nat.le_refl _ | (simp; done) | (simp; omega) | (simp at *; omega)) _ | with_reducible refine bstep ?_ (by assumption)))⟩
  · go_enter Try.func24, Try.ntmps24
    go_wp2_with (first | (go_at_call 44; (with_reducible refine (impl_IsWind _ _ _).mono ?_); rintro e w9 ⟨rfl, hb⟩; obtain ⟨hc, hf⟩ := bcell hb; have hz := hb.size; have z0 : w.heap.size < w9.heap.size := (by first | omega | (simp at hz; omega)); have z1 : w.heap.size + 1 < w9.heap.size := (by first | omega | (simp at hz; omega)); have z2 : w.heap.size + 1 + 1 < w9.heap.size := (by first | omega | (simp at hz; omega))) | (go_at_call 58; (with_reducible refine (impl_IsPoint _ _ _).mono ?_); rintro e w9 ⟨rfl, hb⟩; obtain ⟨hc, hf⟩ := bcell hb; have hz := hb.size; have z0 : w.heap.size < w9.heap.size := (by first | omega | (simp at hz; omega)); have z1 : w.heap.size + 1 < w9.heap.size := (by first | omega | (simp at hz; omega)); have z2 : w.heap.size + 1 + 1 < w9.heap.size := (by first | omega | (simp at hz; omega))))
    go_ret2
    exact ⟨by simp [sel, *], (by repeat (first | with_reducible exact Below.refl _ _ | with_reducible assumption | with_reducible refine Below.drew ?_ | with_reducible refine below_drewN ?_ _ | with_reducible refine Below.setCell ?_ (by first | exact Nat.le_refl _ | (simp; done) | (simp; omega) | (dsimp only; omega)) _ | with_reducible refine Below.alloc ?_ (by first | exact Nat.le_refl _ | (simp; done) | (simp; omega) | (simp at *; omega)) _ | with_reducible refine bstep ?_ (by assumption)))⟩
  · go_enter Try.func24, Try.ntmps24
    go_wp2_with (first | (go_at_call 44; (with_reducible refine (impl_IsWind _ _ _).mono ?_); rintro e w9 ⟨rfl, hb⟩; obtain ⟨hc, hf⟩ := bcell hb; have hz := hb.size; have z0 : w.heap.size < w9.heap.size := (by first | omega | (simp at hz; omega)); have z1 : w.heap.size + 1 < w9.heap.size := (by first | omega | (simp at hz; omega)); have z2 : w.heap.size + 1 + 1 < w9.heap.size := (by first | omega | (simp at hz; omega))) | (go_at_call 58; (with_reducible refine (impl_IsPoint _ _ _).mono ?_); rintro e w9 ⟨rfl, hb⟩; obtain ⟨hc, hf⟩ := bcell hb; have hz := hb.size; have z0 : w.heap.size < w9.heap.size := (by first | omega | (simp at hz; omega)); have z1 : w.heap.size + 1 < w9.heap.size := (by first | omega | (simp at hz; omega)); have z2 : w.heap.size + 1 + 1 < w9.heap.size := (by first | omega | (simp at hz; omega))))
    go_ret2
    exact ⟨by simp [sel, *], (by repeat (first | with_reducible exact Below.refl _ _ | with_reducible assumption | with_reducible refine Below.drew ?_ | with_reducible refine below_drewN ?_ _ | with_reducible refine Below.setCell ?_ (by first | exact Nat.le_refl _ | (simp; done) | (simp; omega) | (dsimp only; omega)) _ | with_reducible refine Below.alloc ?_ (by first | exact Nat.le_refl _ | (simp; done) | (simp; omega) | (simp at *; omega)) _ | with_reducible refine bstep ?_ (by assumption)))⟩
  · obtain ⟨x1, x2, n1, n2, m1, m2, m3, m4, hr⟩ := wg_bd g1 g2 g3
    obtain ⟨a1, a2, a3, a4⟩ := isPt_t g2
    obtain ⟨c1, c2, c3, c4⟩ := isPt_t g3
    have m2' : wx * wx ≤ 4000000000000000000 := by omega
    have m4' : wy * wy ≤ 4000000000000000000 := by omega
    have n3 : -9000000000000000000 ≤ -((qx - px) * wx + (qy - py) * wy) := by omega
    have n4 : -((qx - px) * wx + (qy - py) * wy) ≤ 9000000000000000000 := by omega
    have we1 := hide (show IntKind.i64.wrap (qx - px) = qx - px from IntWalk.i64_in _ (by omega)); have we2 := hide (show IntKind.i64.wrap (qy - py) = qy - py from IntWalk.i64_in _ (by omega)); have we3 := hide (show IntKind.i64.wrap (-((qx - px) * wx + (qy - py) * wy)) = -((qx - px) * wx + (qy - py) * wy) from IntWalk.i64_in _ (by omega))
    go_enter Try.func24, Try.ntmps24
    go_wp2_with (first | (go_at_call 44; (with_reducible refine (impl_IsWind _ _ _).mono ?_); rintro e w9 ⟨rfl, hb⟩; obtain ⟨hc, hf⟩ := bcell hb; have hz := hb.size; have z0 : w.heap.size < w9.heap.size := (by first | omega | (simp at hz; omega)); have z1 : w.heap.size + 1 < w9.heap.size := (by first | omega | (simp at hz; omega)); have z2 : w.heap.size + 1 + 1 < w9.heap.size := (by first | omega | (simp at hz; omega))) | (go_at_call 58; (with_reducible refine (impl_IsPoint _ _ _).mono ?_); rintro e w9 ⟨rfl, hb⟩; obtain ⟨hc, hf⟩ := bcell hb; have hz := hb.size; have z0 : w.heap.size < w9.heap.size := (by first | omega | (simp at hz; omega)); have z1 : w.heap.size + 1 < w9.heap.size := (by first | omega | (simp at hz; omega)); have z2 : w.heap.size + 1 + 1 < w9.heap.size := (by first | omega | (simp at hz; omega))))
    have wf1 := we1.out; have wf2 := we2.out; have wf3 := we3.out
    go_region_held3 (fun W => W.cell? ⟨w.heap.size, 0, none⟩ = some (.int .i64 wx) ∧ W.cell? ⟨w.heap.size, 1, none⟩ = some (.int .i64 wy) ∧ W.cell? ⟨w.heap.size + 1, 0, none⟩ = some (.int .i64 px) ∧ W.cell? ⟨w.heap.size + 1, 1, none⟩ = some (.int .i64 py) ∧ W.cell? ⟨w.heap.size + 2, 0, none⟩ = some (.int .i64 qx) ∧ W.cell? ⟨w.heap.size + 2, 1, none⟩ = some (.int .i64 qy) ∧ Below w.heap.size w W ∧ w.heap.size + 3 ≤ W.heap.size)
    (first | (obtain ⟨k1, k2, k3, k4, k5, k6, kB, kz⟩ := ‹_ ∧ _›; exact ⟨cell_later hb k1, cell_later hb k2, cell_later hb k3, cell_later hb k4, cell_later hb k5, cell_later hb k6, bstep kB hb, bsize kz hb⟩) | (obtain ⟨k1, k2, k3, k4, k5, k6, kB, kz⟩ := ‹_ ∧ _›; exact ⟨k1, k2, k3, k4, k5, k6, kB, kz⟩) | (exact ⟨(by go_simp; done), (by go_simp; done), (by go_simp; done), (by go_simp; done), (by go_simp; done), (by go_simp; done), (by repeat (first | with_reducible exact Below.refl _ _ | with_reducible assumption | with_reducible refine Below.drew ?_ | with_reducible refine below_drewN ?_ _ | with_reducible refine Below.setCell ?_ (by first | exact Nat.le_refl _ | (simp; done) | (simp; omega) | (dsimp only; omega)) _ | with_reducible refine Below.alloc ?_ (by first | exact Nat.le_refl _ | (simp; done) | (simp; omega) | (simp at *; omega)) _ | with_reducible refine bstep ?_ (by assumption))), (by first | (simp; done) | (simp; omega) | omega)⟩))
     (first | (go_at_call 65; (with_reducible refine (impl_scalar _ _ _ _ x1 x2 _).mono ?_); rintro e w9 ⟨rfl, hb⟩; have hzz := hb.size; (try simp at hzz)) | (go_at_call 66; (with_reducible refine (impl_lengthOf _ _ m1 m2' m3 m4' _).mono ?_); rintro e w9 ⟨rfl, hb⟩; have hzz := hb.size; (try simp at hzz)) | (go_at_call 64; (with_reducible refine (impl_floorDiv _ _ n3 n4 hr _).mono ?_); rintro e w9 ⟨rfl, rfl⟩))
    clear wf1 wf2 wf3
    obtain ⟨k1, k2, k3, k4, k5, k6, kB, kz⟩ := ‹_ ∧ _›
    go_wp2
    go_ret2
    exact ⟨by simp [sel, wgI, *], kB⟩
set_option maxHeartbeats 1000000 in
theorem spec_WindwardGain (wx wy px py qx qy : Int) (w : World) :
    Calls Try.prog 25 #[.agg #[.int .i64 wx, .int .i64 wy], .agg #[.int .i64 px, .int .i64 py], .agg #[.int .i64 qx, .int .i64 qy]] w fun e w' => e = .returned (.tuple #[.int .i64 (sel (isWd wx wy && isPt px py && isPt qx qy) (wgI wx wy px py qx qy) 0), .int .i64 (sel (isWd wx wy && isPt px py && isPt qx qy) 0 1)]) ∧ Below w.heap.size w w' := by
  rcases b4 (isWd wx wy) (isPt px py) (isPt qx qy) with g1 | ⟨g1, g2⟩ | ⟨g1, g2, g3⟩ | ⟨g1, g2, g3⟩
  · go_enter Try.func25, Try.ntmps25
    go_wp2_with (first | (go_at_call 47; (with_reducible refine (spec_IsWind _ _ _).mono ?_); rintro e w9 ⟨rfl, hb⟩; obtain ⟨hc, hf⟩ := bcell hb; have hz := hb.size; have z0 : w.heap.size < w9.heap.size := (by first | omega | (simp at hz; omega)); have z1 : w.heap.size + 1 < w9.heap.size := (by first | omega | (simp at hz; omega)); have z2 : w.heap.size + 1 + 1 < w9.heap.size := (by first | omega | (simp at hz; omega))) | (go_at_call 67; (with_reducible refine (spec_IsPoint _ _ _).mono ?_); rintro e w9 ⟨rfl, hb⟩; obtain ⟨hc, hf⟩ := bcell hb; have hz := hb.size; have z0 : w.heap.size < w9.heap.size := (by first | omega | (simp at hz; omega)); have z1 : w.heap.size + 1 < w9.heap.size := (by first | omega | (simp at hz; omega)); have z2 : w.heap.size + 1 + 1 < w9.heap.size := (by first | omega | (simp at hz; omega))))
    go_ret2
    exact ⟨by simp [sel, *], (by repeat (first | with_reducible exact Below.refl _ _ | with_reducible assumption | with_reducible refine Below.drew ?_ | with_reducible refine below_drewN ?_ _ | with_reducible refine Below.setCell ?_ (by first | exact Nat.le_refl _ | (simp; done) | (simp; omega) | (dsimp only; omega)) _ | with_reducible refine Below.alloc ?_ (by first | exact Nat.le_refl _ | (simp; done) | (simp; omega) | (simp at *; omega)) _ | with_reducible refine bstep ?_ (by assumption)))⟩
  · go_enter Try.func25, Try.ntmps25
    go_wp2_with (first | (go_at_call 47; (with_reducible refine (spec_IsWind _ _ _).mono ?_); rintro e w9 ⟨rfl, hb⟩; obtain ⟨hc, hf⟩ := bcell hb; have hz := hb.size; have z0 : w.heap.size < w9.heap.size := (by first | omega | (simp at hz; omega)); have z1 : w.heap.size + 1 < w9.heap.size := (by first | omega | (simp at hz; omega)); have z2 : w.heap.size + 1 + 1 < w9.heap.size := (by first | omega | (simp at hz; omega))) | (go_at_call 67; (with_reducible refine (spec_IsPoint _ _ _).mono ?_); rintro e w9 ⟨rfl, hb⟩; obtain ⟨hc, hf⟩ := bcell hb; have hz := hb.size; have z0 : w.heap.size < w9.heap.size := (by first | omega | (simp at hz; omega)); have z1 : w.heap.size + 1 < w9.heap.size := (by first | omega | (simp at hz; omega)); have z2 : w.heap.size + 1 + 1 < w9.heap.size := (by first | omega | (simp at hz; omega))))
    go_ret2
    exact ⟨by simp [sel, *], (by repeat (first | with_reducible exact Below.refl _ _ | with_reducible assumption | with_reducible refine Below.drew ?_ | with_reducible refine below_drewN ?_ _ | with_reducible refine Below.setCell ?_ (by first | exact Nat.le_refl _ | (simp; done) | (simp; omega) | (dsimp only; omega)) _ | with_reducible refine Below.alloc ?_ (by first | exact Nat.le_refl _ | (simp; done) | (simp; omega) | (simp at *; omega)) _ | with_reducible refine bstep ?_ (by assumption)))⟩
  · go_enter Try.func25, Try.ntmps25
    go_wp2_with (first | (go_at_call 47; (with_reducible refine (spec_IsWind _ _ _).mono ?_); rintro e w9 ⟨rfl, hb⟩; obtain ⟨hc, hf⟩ := bcell hb; have hz := hb.size; have z0 : w.heap.size < w9.heap.size := (by first | omega | (simp at hz; omega)); have z1 : w.heap.size + 1 < w9.heap.size := (by first | omega | (simp at hz; omega)); have z2 : w.heap.size + 1 + 1 < w9.heap.size := (by first | omega | (simp at hz; omega))) | (go_at_call 67; (with_reducible refine (spec_IsPoint _ _ _).mono ?_); rintro e w9 ⟨rfl, hb⟩; obtain ⟨hc, hf⟩ := bcell hb; have hz := hb.size; have z0 : w.heap.size < w9.heap.size := (by first | omega | (simp at hz; omega)); have z1 : w.heap.size + 1 < w9.heap.size := (by first | omega | (simp at hz; omega)); have z2 : w.heap.size + 1 + 1 < w9.heap.size := (by first | omega | (simp at hz; omega))))
    go_ret2
    exact ⟨by simp [sel, *], (by repeat (first | with_reducible exact Below.refl _ _ | with_reducible assumption | with_reducible refine Below.drew ?_ | with_reducible refine below_drewN ?_ _ | with_reducible refine Below.setCell ?_ (by first | exact Nat.le_refl _ | (simp; done) | (simp; omega) | (dsimp only; omega)) _ | with_reducible refine Below.alloc ?_ (by first | exact Nat.le_refl _ | (simp; done) | (simp; omega) | (simp at *; omega)) _ | with_reducible refine bstep ?_ (by assumption)))⟩
  · obtain ⟨x1, x2, n1, n2, m1, m2, m3, m4, hr⟩ := wg_bd g1 g2 g3
    obtain ⟨s1, s2⟩ := pt_sm g2
    obtain ⟨s3, s4⟩ := pt_sm g3
    have y1 : Bd (wx * wx) := bd_of (by omega) (by omega)
    have y2 : Bd (wy * wy) := bd_of (by omega) (by omega)
    have n3 : -9000000000000000000 ≤ -((qx - px) * wx + (qy - py) * wy) := by omega
    have n4 : -((qx - px) * wx + (qy - py) * wy) ≤ 9000000000000000000 := by omega
    have n5 : 0 ≤ wx * wx + wy * wy := by omega
    have n6 : wx * wx + wy * wy ≤ 1000000000000000000 := by omega
    have we1 := hide (show IntKind.i64.wrap (-((qx - px) * wx + (qy - py) * wy)) = -((qx - px) * wx + (qy - py) * wy) from IntWalk.i64_in _ (by omega))
    go_enter Try.func25, Try.ntmps25
    go_wp2_with (first | (go_at_call 47; (with_reducible refine (spec_IsWind _ _ _).mono ?_); rintro e w9 ⟨rfl, hb⟩; obtain ⟨hc, hf⟩ := bcell hb; have hz := hb.size; have z0 : w.heap.size < w9.heap.size := (by first | omega | (simp at hz; omega)); have z1 : w.heap.size + 1 < w9.heap.size := (by first | omega | (simp at hz; omega)); have z2 : w.heap.size + 1 + 1 < w9.heap.size := (by first | omega | (simp at hz; omega))) | (go_at_call 67; (with_reducible refine (spec_IsPoint _ _ _).mono ?_); rintro e w9 ⟨rfl, hb⟩; obtain ⟨hc, hf⟩ := bcell hb; have hz := hb.size; have z0 : w.heap.size < w9.heap.size := (by first | omega | (simp at hz; omega)); have z1 : w.heap.size + 1 < w9.heap.size := (by first | omega | (simp at hz; omega)); have z2 : w.heap.size + 1 + 1 < w9.heap.size := (by first | omega | (simp at hz; omega))) | (go_at_call 68; (with_reducible refine (spec_l08Vector _ _ _).mono ?_); rintro e wv ⟨rfl, hb⟩; obtain ⟨hc, hf⟩ := bcell hb; have hz := hb.size; have z0 : w.heap.size < wv.heap.size := (by first | omega | (simp at hz; omega)); have z1 : w.heap.size + 1 < wv.heap.size := (by first | omega | (simp at hz; omega)); have z2 : w.heap.size + 1 + 1 < wv.heap.size := (by first | omega | (simp at hz; omega))))
    have wf1 := we1.out
    go_region_held3 (fun W => W.cell? ⟨w.heap.size + 1, 0, none⟩ = some (.int .i64 px) ∧ W.cell? ⟨w.heap.size + 1, 1, none⟩ = some (.int .i64 py) ∧ W.cell? ⟨w.heap.size + 2, 0, none⟩ = some (.int .i64 qx) ∧ W.cell? ⟨w.heap.size + 2, 1, none⟩ = some (.int .i64 qy) ∧ W.cell? ⟨wv.heap.size, 0, none⟩ = some (.int .i64 wx) ∧ W.cell? ⟨wv.heap.size, 1, none⟩ = some (.int .i64 wy) ∧ Below w.heap.size w W ∧ w.heap.size + 3 ≤ W.heap.size)
    (first | (obtain ⟨k1, k2, k3, k4, k5, k6, kB, kz⟩ := ‹_ ∧ _›; exact ⟨cell_later hb k1, cell_later hb k2, cell_later hb k3, cell_later hb k4, cell_later hb k5, cell_later hb k6, bstep kB hb, bsize kz hb⟩) | (obtain ⟨k1, k2, k3, k4, k5, k6, kB, kz⟩ := ‹_ ∧ _›; exact ⟨k1, k2, k3, k4, k5, k6, kB, kz⟩) | (exact ⟨(by go_simp; done), (by go_simp; done), (by go_simp; done), (by go_simp; done), (by go_simp; done), (by go_simp; done), (by repeat (first | with_reducible exact Below.refl _ _ | with_reducible assumption | with_reducible refine Below.drew ?_ | with_reducible refine below_drewN ?_ _ | with_reducible refine Below.setCell ?_ (by first | exact Nat.le_refl _ | (simp; done) | (simp; omega) | (dsimp only; omega)) _ | with_reducible refine Below.alloc ?_ (by first | exact Nat.le_refl _ | (simp; done) | (simp; omega) | (simp at *; omega)) _ | with_reducible refine bstep ?_ (by assumption))), (by first | (simp; done) | (simp; omega) | omega)⟩))
     (first | (go_at_call 71; (with_reducible refine (spec_l01Minus _ _ _ _ s3 s4 s1 s2 _).mono ?_); rintro e w9 ⟨rfl, hb⟩; have hzz := hb.size; (try simp at hzz)) | (go_at_call 70; (with_reducible refine (spec_l01Dot (qx - px) (qy - py) _ _ x1 x2 _).mono ?_); rintro e w9 ⟨rfl, hb⟩; have hzz := hb.size; (try simp at hzz)) | (go_at_call 70; (with_reducible refine (spec_l01Dot wx wy _ _ y1 y2 _).mono ?_); rintro e w9 ⟨rfl, hb⟩; have hzz := hb.size; (try simp at hzz)) | (go_at_call 72; (with_reducible refine (spec_l01Root _ n5 n6 _).mono ?_); rintro e w9 ⟨rfl, rfl⟩) | (go_at_call 69; (with_reducible refine (spec_l01Floor _ _ n3 n4 hr _).mono ?_); rintro e w9 ⟨rfl, rfl⟩))
    clear wf1
    obtain ⟨k1, k2, k3, k4, k5, k6, kB, kz⟩ := ‹_ ∧ _›
    go_wp2
    go_ret2
    exact ⟨by simp [sel, wgI, *], kB⟩
end Go.Proofs.Ytkhapajjbomknaa
