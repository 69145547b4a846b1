/- Walks: segments that meet, of the program. -/
import Derived.Test.YtkhapajjbomknaaJp
import Derived.Deep.DeepCutAuto
namespace Go.Proofs.Ytkhapajjbomknaa
open Go.RowKit

set_option maxHeartbeats 1000000 in
theorem impl_sides (ax ay bx bY cx cy dx dy : Int) (h1 : isSg ax ay bx bY = true) (h2 : isSg cx cy dx dy = true) (w : World) :
    Calls Try.prog 100 #[.agg #[.int .i64 ax, .int .i64 ay, .int .i64 bx, .int .i64 bY], .agg #[.int .i64 cx, .int .i64 cy, .int .i64 dx, .int .i64 dy]] w fun e w' => e = .returned (.tuple #[.int .i64 (sgn (crs ax ay bx bY cx cy)), .int .i64 (sgn (crs ax ay bx bY dx dy))]) ∧ Below w.heap.size w w' := by
  obtain ⟨s1, s2⟩ := pt_sm (isSg_t h1).1
  obtain ⟨s3, s4⟩ := pt_sm (isSg_t h1).2.1
  obtain ⟨s5, s6⟩ := pt_sm (isSg_t h2).1
  obtain ⟨s7, s8⟩ := pt_sm (isSg_t h2).2.1
  clear h1 h2
  go_enter Try.func100, Try.ntmps100
  go_wp2
  go_region_held3 (fun W => W.cell? ⟨w.heap.size, 0, none⟩ = some (.int .i64 ax) ∧ W.cell? ⟨w.heap.size, 1, none⟩ = some (.int .i64 ay) ∧ W.cell? ⟨w.heap.size, 2, none⟩ = some (.int .i64 bx) ∧ W.cell? ⟨w.heap.size, 3, none⟩ = some (.int .i64 bY) ∧ W.cell? ⟨w.heap.size + 1, 0, none⟩ = some (.int .i64 cx) ∧ W.cell? ⟨w.heap.size + 1, 1, none⟩ = some (.int .i64 cy) ∧ W.cell? ⟨w.heap.size + 1, 2, none⟩ = some (.int .i64 dx) ∧ W.cell? ⟨w.heap.size + 1, 3, none⟩ = some (.int .i64 dy) ∧ Below w.heap.size w W ∧ w.heap.size + 2 ≤ W.heap.size)
    (first | (obtain ⟨k1, k2, k3, k4, k5, k6, k7, k8, kB, kz⟩ := ‹_ ∧ _›; exact ⟨cell_later hb k1, cell_later hb k2, cell_later hb k3, cell_later hb k4, cell_later hb k5, cell_later hb k6, cell_later hb k7, cell_later hb k8, bstep kB hb, bsize kz hb⟩) | (obtain ⟨k1, k2, k3, k4, k5, k6, k7, k8, kB, kz⟩ := ‹_ ∧ _›; exact ⟨k1, k2, k3, k4, k5, k6, k7, k8, kB, kz⟩) | (exact ⟨(by go_simp; done), (by go_simp; done), (by go_simp; done), (by go_simp; done), (by go_simp; done), (by go_simp; done), (by go_simp; done), (by go_simp; done), (by repeat (first | with_reducible exact Below.refl _ _ | with_reducible assumption | with_reducible refine Below.drew ?_ | with_reducible refine below_drewN ?_ _ | with_reducible refine Below.setCell ?_ (by first | exact Nat.le_refl _ | (simp; done) | (simp; omega) | (dsimp only; omega)) _ | with_reducible refine Below.alloc ?_ (by first | exact Nat.le_refl _ | (simp; done) | (simp; omega) | (simp at *; omega)) _ | with_reducible refine bstep ?_ (by assumption))), (by first | (simp; done) | (simp; omega) | omega)⟩))
     (first | (go_at_call 109; (with_reducible refine (impl_turn _ _ _ _ cx cy s1 s2 s3 s4 s5 s6 _).mono ?_); rintro e w9 ⟨rfl, hb⟩; have hzz := hb.size; (try simp at hzz)) | (go_at_call 109; (with_reducible refine (impl_turn _ _ _ _ dx dy s1 s2 s3 s4 s7 s8 _).mono ?_); rintro e w9 ⟨rfl, hb⟩; have hzz := hb.size; (try simp at hzz)))
  obtain ⟨k1, k2, k3, k4, k5, k6, k7, k8, kB, kz⟩ := ‹_ ∧ _›
  go_wp2
  go_ret2
  exact ⟨rfl, kB⟩
set_option maxHeartbeats 1000000 in
theorem impl_onSegment (ax ay bx bY px py : Int) (w : World) :
    Calls Try.prog 101 #[.agg #[.int .i64 ax, .int .i64 ay, .int .i64 bx, .int .i64 bY], .agg #[.int .i64 px, .int .i64 py]] w fun e w' => e = .returned (.bool (onX ax ay bx bY px py)) ∧ Below w.heap.size w w' := by
  go_enter Try.func101, Try.ntmps101
  go_wp2_with (go_at_call 81; (with_reducible refine (impl_within _ _ _ _).mono ?_); rintro e w9 ⟨rfl, rfl⟩)
  all_goals
    go_ret
    refine ⟨ret_b ?_, (by repeat (first | with_reducible exact Below.refl _ _ | with_reducible assumption | with_reducible refine Below.drew ?_ | with_reducible refine below_drewN ?_ _ | with_reducible refine Below.setCell ?_ (by first | exact Nat.le_refl _ | (simp; done) | (simp; omega) | (dsimp only; omega)) _ | with_reducible refine Below.alloc ?_ (by first | exact Nat.le_refl _ | (simp; done) | (simp; omega) | (simp at *; omega)) _ | with_reducible refine bstep ?_ (by assumption)))⟩
    unfold onX
    rw [Bool.eq_iff_iff]
    rcases mm ax bx with ⟨e1, e2, e3⟩ | ⟨e1, e2, e3⟩
    all_goals rcases mm ay bY with ⟨e4, e5, e6⟩ | ⟨e4, e5, e6⟩
    all_goals
      rw [e1, e2, e4, e5]
      clear e1 e2 e4 e5
      simp only [inB, Bool.and_eq_true, decide_eq_true_eq, decide_eq_false_iff_not, Bool.false_eq_true, Bool.true_eq_false] at *
      first | omega | (constructor <;> (intro hh; first | exact hh.elim | omega))
set_option maxHeartbeats 4000000 in
theorem impl_SegmentsMeet (ax ay bx bY cx cy dx dy : Int) (h1 : isSg ax ay bx bY = true) (h2 : isSg cx cy dx dy = true) (w : World) :
    Calls Try.prog 83 #[.agg #[.int .i64 ax, .int .i64 ay, .int .i64 bx, .int .i64 bY], .agg #[.int .i64 cx, .int .i64 cy, .int .i64 dx, .int .i64 dy]] w fun e w' => e = .returned (.tuple #[.bool (meetB ax ay bx bY cx cy dx dy), .int .i64 0]) ∧ Below w.heap.size w w' := by
  obtain ⟨m1, m2⟩ := sgn_mul_bd (crs ax ay bx bY cx cy) (crs ax ay bx bY dx dy)
  obtain ⟨m3, m4⟩ := sgn_mul_bd (crs cx cy dx dy ax ay) (crs cx cy dx dy bx bY)
  have Hx := hide (xB.eq_1 ax ay bx bY cx cy dx dy)
  go_enter Try.func83, Try.ntmps83
  go_upto_region 5 with (first | (go_at_call 82; (with_reducible refine (impl_IsSegment _ _ _ _ _).mono ?_); rintro e w9 ⟨rfl, hb⟩; obtain ⟨hc, hf⟩ := bcell hb; have hz := hb.size; have z0 : w.heap.size < w9.heap.size := (by first | omega | (simp at hz; omega)); have z1 : w.heap.size + 1 < w9.heap.size := (by first | omega | (simp at hz; omega))) | (go_at_call 100; (with_reducible refine (impl_sides _ _ _ _ _ _ _ _ h1 h2 _).mono ?_); rintro e w9 ⟨rfl, hb⟩; obtain ⟨hc, hf⟩ := bcell hb; have hz := hb.size; have z0 : w.heap.size < w9.heap.size := (by first | omega | (simp at hz; omega)); have z1 : w.heap.size + 1 < w9.heap.size := (by first | omega | (simp at hz; omega))) | (go_at_call 100; (with_reducible refine (impl_sides _ _ _ _ _ _ _ _ h2 h1 _).mono ?_); rintro e w9 ⟨rfl, hb⟩; obtain ⟨hc, hf⟩ := bcell hb; have hz := hb.size; have z0 : w.heap.size < w9.heap.size := (by first | omega | (simp at hz; omega)); have z1 : w.heap.size + 1 < w9.heap.size := (by first | omega | (simp at hz; omega))))
  go_cut [6, 7, 8, 9, 10] from 11 (fun a1 a2 a3 a4 c W => a1 = .int .i64 (sgn (crs ax ay bx bY cx cy)) ∧ a2 = .int .i64 (sgn (crs ax ay bx bY dx dy)) ∧ a3 = .int .i64 (sgn (crs cx cy dx dy ax ay)) ∧ a4 = .int .i64 (sgn (crs cx cy dx dy bx bY)) ∧ c = .bool (xB ax ay bx bY cx cy dx dy) ∧ W.cell? ⟨w.heap.size, 0, none⟩ = some (.int .i64 ax) ∧ W.cell? ⟨w.heap.size, 1, none⟩ = some (.int .i64 ay) ∧ W.cell? ⟨w.heap.size, 2, none⟩ = some (.int .i64 bx) ∧ W.cell? ⟨w.heap.size, 3, none⟩ = some (.int .i64 bY) ∧ W.cell? ⟨w.heap.size + 1, 0, none⟩ = some (.int .i64 cx) ∧ W.cell? ⟨w.heap.size + 1, 1, none⟩ = some (.int .i64 cy) ∧ W.cell? ⟨w.heap.size + 1, 2, none⟩ = some (.int .i64 dx) ∧ W.cell? ⟨w.heap.size + 1, 3, none⟩ = some (.int .i64 dy) ∧ Below w.heap.size w W ∧ w.heap.size + 2 ≤ W.heap.size)
  case first =>
    go_wp2
    all_goals
      go_meet
      exact ⟨by simp [*], by simp [*], by simp [*], by simp [*], congrArg Value.bool (by rw [Hx.out]; first | (simp [*]; done) | (simp; omega)), (by go_simp; done), (by go_simp; done), (by go_simp; done), (by go_simp; done), (by go_simp; done), (by go_simp; done), (by go_simp; done), (by go_simp; done), (by repeat (first | with_reducible exact Below.refl _ _ | with_reducible assumption | with_reducible refine Below.drew ?_ | with_reducible refine below_drewN ?_ _ | with_reducible refine Below.setCell ?_ (by first | exact Nat.le_refl _ | (simp; done) | (simp; omega) | (dsimp only; omega)) _ | with_reducible refine Below.alloc ?_ (by first | exact Nat.le_refl _ | (simp; done) | (simp; omega) | (simp at *; omega)) _ | with_reducible refine bstep ?_ (by assumption))), (by omega)⟩
  case rest =>
    obtain ⟨rfl, rfl, rfl, rfl, rfl, k1, k2, k3, k4, k5, k6, k7, k8, kB, kz⟩ := hcut
    clear Hx m1 m2 m3 m4
    have zy0 : w.heap.size < wc.heap.size := (by omega); have zy1 : w.heap.size + 1 < wc.heap.size := (by omega)
    have Ho := hide (onB_sgn ax ay bx bY cx cy)
    have Hp := hide (onB_sgn ax ay bx bY dx dy)
    obtain ⟨wA, rfl⟩ : ∃ wA : World, wA = wc := ⟨_, rfl⟩
    go_upto_region 6 with fail
    go_cut [6, 7, 8, 9, 10] from 11 (fun a1 a2 a3 a4 c W => a1 = .int .i64 (sgn (crs ax ay bx bY cx cy)) ∧ a2 = .int .i64 (sgn (crs ax ay bx bY dx dy)) ∧ a3 = .int .i64 (sgn (crs cx cy dx dy ax ay)) ∧ a4 = .int .i64 (sgn (crs cx cy dx dy bx bY)) ∧ c = .bool (meet3 ax ay bx bY cx cy dx dy) ∧ W.cell? ⟨w.heap.size, 0, none⟩ = some (.int .i64 ax) ∧ W.cell? ⟨w.heap.size, 1, none⟩ = some (.int .i64 ay) ∧ W.cell? ⟨w.heap.size, 2, none⟩ = some (.int .i64 bx) ∧ W.cell? ⟨w.heap.size, 3, none⟩ = some (.int .i64 bY) ∧ W.cell? ⟨w.heap.size + 1, 0, none⟩ = some (.int .i64 cx) ∧ W.cell? ⟨w.heap.size + 1, 1, none⟩ = some (.int .i64 cy) ∧ W.cell? ⟨w.heap.size + 1, 2, none⟩ = some (.int .i64 dx) ∧ W.cell? ⟨w.heap.size + 1, 3, none⟩ = some (.int .i64 dy) ∧ Below w.heap.size w W ∧ w.heap.size + 2 ≤ W.heap.size)
    case first =>
      go_wp2_with (first | (go_at_call 101; (with_reducible refine (impl_onSegment _ _ _ _ _ _ _).mono ?_); rintro e w9 ⟨rfl, hb⟩; obtain ⟨hc, hf⟩ := bcell hb; have hz := hb.size; have z0 : w.heap.size < w9.heap.size := (by first | omega | (simp at hz; omega)); have z1 : w.heap.size + 1 < w9.heap.size := (by first | omega | (simp at hz; omega))))
      all_goals
        go_meet
        exact ⟨by simp [*], by simp [*], by simp [*], by simp [*], congrArg Value.bool (by unfold meet3; rw [Ho.out, Hp.out]; simp [*]), (by go_simp; done), (by go_simp; done), (by go_simp; done), (by go_simp; done), (by go_simp; done), (by go_simp; done), (by go_simp; done), (by go_simp; done), (by repeat (first | with_reducible exact Below.refl _ _ | with_reducible assumption | with_reducible refine Below.drew ?_ | with_reducible refine below_drewN ?_ _ | with_reducible refine Below.setCell ?_ (by first | exact Nat.le_refl _ | (simp; done) | (simp; omega) | (dsimp only; omega)) _ | with_reducible refine Below.alloc ?_ (by first | exact Nat.le_refl _ | (simp; done) | (simp; omega) | (simp at *; omega)) _ | with_reducible refine bstep ?_ (by assumption))), (by omega)⟩
    case rest =>
      clear k1 k2 k3 k4 k5 k6 k7 k8 kB kz Ho Hp zy0 zy1
      obtain ⟨rfl, rfl, rfl, rfl, rfl, k1, k2, k3, k4, k5, k6, k7, k8, kB, kz⟩ := hcut
      have zy0 : w.heap.size < wc.heap.size := (by omega); have zy1 : w.heap.size + 1 < wc.heap.size := (by omega)
      have Ho := hide (onB_sgn cx cy dx dy ax ay)
      have Hp := hide (onB_sgn cx cy dx dy bx bY)
      have Hm := hide (show meetB ax ay bx bY cx cy dx dy = (meet3 ax ay bx bY cx cy dx dy || onB cx cy dx dy ax ay || onB cx cy dx dy bx bY) from rfl)
      go_wp2_with (first | (go_at_call 101; (with_reducible refine (impl_onSegment _ _ _ _ _ _ _).mono ?_); rintro e w9 ⟨rfl, hb⟩; obtain ⟨hc, hf⟩ := bcell hb; have hz := hb.size; have z0 : w.heap.size < w9.heap.size := (by first | omega | (simp at hz; omega)); have z1 : w.heap.size + 1 < w9.heap.size := (by first | omega | (simp at hz; omega))))
      all_goals
        (first | go_ret2 | (go_show; fail))
        exact ⟨by rw [Hm.out, Ho.out, Hp.out]; simp [*], (by repeat (first | with_reducible exact Below.refl _ _ | with_reducible assumption | with_reducible refine Below.drew ?_ | with_reducible refine below_drewN ?_ _ | with_reducible refine Below.setCell ?_ (by first | exact Nat.le_refl _ | (simp; done) | (simp; omega) | (dsimp only; omega)) _ | with_reducible refine Below.alloc ?_ (by first | exact Nat.le_refl _ | (simp; done) | (simp; omega) | (simp at *; omega)) _ | with_reducible refine bstep ?_ (by assumption)))⟩
end Go.Proofs.Ytkhapajjbomknaa
