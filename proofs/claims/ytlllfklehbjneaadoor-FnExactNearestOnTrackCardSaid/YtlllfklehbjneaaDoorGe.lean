/- Walks: the nearest place of a segment to a point; the point at a place; the nearest point of a leg; of both. -/
import Derived.Test.YtlllfklehbjneaaDoorGd
import Derived.Test.YtlllfklehbjneaaDoorZl
import Derived.Test.YtlllfklehbjneaaDoorZm
namespace Go.Proofs.YtlllfklehbjneaaDoor
open Go.RowKit

/-- A number brought to 0 .. m. -/
def npN (f m : Int) : Int := if f < 0 then 0 else if m < f then m else f
theorem npN_bd (f : Int) {m : Int} (h : 0 ≤ m) : 0 ≤ npN f m ∧ npN f m ≤ m := by unfold npN; split <;> (try split) <;> omega
/-- The nearest place: its numerator, its denominator. -/
def npG (ax ay bx bY px py : Int) : Int := npN (farI ax ay bx bY px py) (sq ax ay bx bY) / gdI (npN (farI ax ay bx bY px py) (sq ax ay bx bY)) (sq ax ay bx bY)
def npM (ax ay bx bY px py : Int) : Int := sq ax ay bx bY / gdI (npN (farI ax ay bx bY px py) (sq ax ay bx bY)) (sq ax ay bx bY)
theorem np_facts {ax ay bx bY : Int} (px py : Int) (h : isSg ax ay bx bY = true) : 0 ≤ npG ax ay bx bY px py ∧ npG ax ay bx bY px py ≤ npM ax ay bx bY px py ∧ 1 ≤ npM ax ay bx bY px py ∧ npM ax ay bx bY px py ≤ 8000000000000 := by
  obtain ⟨ha, hb, m1⟩ := isSg_t h
  have m2 := (sq_pt ha hb).2
  obtain ⟨b0, b1⟩ := npN_bd (farI ax ay bx bY px py) (show 0 ≤ sq ax ay bx bY by omega)
  obtain ⟨p1, p2, p3, p4⟩ := pl_facts b0 b1 m1
  exact ⟨p1, p2, p3, by unfold npM; omega⟩
set_option maxHeartbeats 4000000 in
theorem impl_NearestPlace_ok (ax ay bx bY px py : Int) (g1 : isSg ax ay bx bY = true) (g2 : isPt px py = true) (w : World) :
    Calls Tryd.prog 56 #[.agg #[.int .i64 ax, .int .i64 ay, .int .i64 bx, .int .i64 bY], .agg #[.int .i64 px, .int .i64 py]] w fun e w' => e = .returned (.tuple #[.agg #[.int .i64 (npG ax ay bx bY px py), .int .i64 (npM ax ay bx bY px py)], .int .i64 0]) ∧ Below w.heap.size w w' := by
  obtain ⟨ha, hb, m1⟩ := isSg_t g1
  obtain ⟨s1, s2⟩ := pt_sm ha
  obtain ⟨s3, s4⟩ := pt_sm hb
  obtain ⟨s5, s6⟩ := pt_sm g2
  have m2 := (sq_pt ha hb).2
  obtain ⟨f0, f1, _, _⟩ := pt_bd3 ha hb g2
  have KS := hide (fun W => g1 ▸ impl_IsSegment ax ay bx bY W)
  have KP := hide (fun W => g2 ▸ impl_IsPoint px py W)
  have KA := hide (fun W => impl_along ax ay bx bY px py s1 s2 s3 s4 s5 s6 W)
  obtain ⟨b0, b1⟩ := npN_bd (farI ax ay bx bY px py) (show 0 ≤ sq ax ay bx bY by omega)
  have KL := hide (fun W => impl_lowest (npN (farI ax ay bx bY px py) (sq ax ay bx bY)) (sq ax ay bx bY) b0 (by omega) m1 (by omega) W)
  have hn : npN (farI ax ay bx bY px py) (sq ax ay bx bY) = if farI ax ay bx bY px py < 0 then 0 else if sq ax ay bx bY < farI ax ay bx bY px py then sq ax ay bx bY else farI ax ay bx bY px py := rfl
  unfold npG npM
  generalize npN (farI ax ay bx bY px py) (sq ax ay bx bY) = n9 at *
  generalize gdI n9 (sq ax ay bx bY) = g9 at *
  generalize sq ax ay bx bY = m9 at *
  generalize farI ax ay bx bY px py = f9 at *
  clear ha hb g1 g2 s1 s2 s3 s4 s5 s6
  have hcase : (f9 < 0 ∧ n9 = 0) ∨ (f9 = 0 ∧ n9 = 0) ∨ (0 < f9 ∧ f9 < m9 ∧ n9 = f9) ∨ (0 < f9 ∧ f9 = m9 ∧ n9 = m9) ∨ (0 < f9 ∧ m9 < f9 ∧ n9 = m9) := by
    split at hn
    · omega
    · split at hn <;> omega
  clear hn
  rcases hcase with ⟨k1, rfl⟩ | ⟨rfl, rfl⟩ | ⟨k1, k2, rfl⟩ | ⟨k1, rfl, rfl⟩ | ⟨k1, k2, rfl⟩
  all_goals
    go_enter Tryd.func56, Tryd.ntmps56
    go_wp2_with (first | (go_at_call 85; (with_reducible refine (KS.out _).mono ?_); rintro e w9 ⟨rfl, hb⟩; obtain ⟨hc, hf⟩ := bcell hb; have hz := hb.size; have z0 : w.heap.size < w9.heap.size := (by first | omega | (simp at hz; omega)); have z1 : w.heap.size + 1 < w9.heap.size := (by first | omega | (simp at hz; omega)); have z2 : w.heap.size + 1 + 1 < w9.heap.size := (by first | omega | (simp at hz; omega))) | (go_at_call 86; (with_reducible refine (KP.out _).mono ?_); rintro e w9 ⟨rfl, hb⟩; obtain ⟨hc, hf⟩ := bcell hb; have hz := hb.size; have z0 : w.heap.size < w9.heap.size := (by first | omega | (simp at hz; omega)); have z1 : w.heap.size + 1 < w9.heap.size := (by first | omega | (simp at hz; omega)); have z2 : w.heap.size + 1 + 1 < w9.heap.size := (by first | omega | (simp at hz; omega))) | (go_at_call 87; (with_reducible refine (KA.out _).mono ?_); rintro e w9 ⟨rfl, hb⟩; obtain ⟨hc, hf⟩ := bcell hb; have hz := hb.size; have z0 : w.heap.size < w9.heap.size := (by first | omega | (simp at hz; omega)); have z1 : w.heap.size + 1 < w9.heap.size := (by first | omega | (simp at hz; omega)); have z2 : w.heap.size + 1 + 1 < w9.heap.size := (by first | omega | (simp at hz; omega))) | (go_at_call 88; (with_reducible refine (KL.out _).mono ?_); rintro e w9 ⟨rfl, hb⟩; obtain ⟨hc, hf⟩ := bcell hb; have hz := hb.size; have z0 : w.heap.size < w9.heap.size := (by first | omega | (simp at hz; omega)); have z1 : w.heap.size + 1 < w9.heap.size := (by first | omega | (simp at hz; omega)); have z2 : w.heap.size + 1 + 1 < w9.heap.size := (by first | omega | (simp at hz; omega))))
    simp [bodyPost, results, Tryd.results56, go_sem, *]
  all_goals exact (by repeat (first | with_reducible exact Below.refl _ _ | with_reducible assumption | with_reducible refine Below.drew ?_ | with_reducible refine below_drewN ?_ _ | with_reducible refine Below.setCell ?_ (by first | exact Nat.le_refl _ | (simp; done) | (simp; omega) | (dsimp only; omega)) _ | with_reducible refine Below.alloc ?_ (by first | exact Nat.le_refl _ | (simp; done) | (simp; omega) | (simp at *; omega)) _ | with_reducible refine bstep ?_ (by assumption)))
set_option maxRecDepth 100000 in
set_option maxHeartbeats 4000000 in
theorem impl_pointAt (ax ay bx bY g m : Int) (ha : isPt ax ay = true) (hb' : isPt bx bY = true) (h1 : 0 ≤ g) (h2 : g ≤ m) (h3 : 1 ≤ m) (h4 : m ≤ 9000000000000) (w : World) :
    Calls Tryd.prog 57 #[.agg #[.int .i64 ax, .int .i64 ay, .int .i64 bx, .int .i64 bY], .agg #[.int .i64 g, .int .i64 m]] w fun e w' => e = .returned (.agg #[.int .i64 (posI ax bx g m), .int .i64 (posI ay bY g m)]) ∧ Below w.heap.size w w' := by
  obtain ⟨x1, x2, x3, x4⟩ := isPt_t ha
  obtain ⟨y1, y2, y3, y4⟩ := isPt_t hb'
  obtain ⟨p1, p2⟩ := posI_bd x1 x2 y1 y2 h1 h2 (by omega)
  obtain ⟨p3, p4⟩ := posI_bd x3 x4 y3 y4 h1 h2 (by omega)
  have KX := hide (fun W => impl_partOf (bx - ax) g m (by omega) (by omega) h1 h2 h3 h4 W)
  have KY := hide (fun W => impl_partOf (bY - ay) g m (by omega) (by omega) h1 h2 h3 h4 W)
  have e1 : posI ax bx g m = ax + (bx - ax) * g / m := rfl
  have e2 : posI ay bY g m = ay + (bY - ay) * g / m := rfl
  have we1 := hide (show IntKind.i64.wrap (bx - ax) = bx - ax from IntWalk.i64_in _ (by omega))
  have we2 := hide (show IntKind.i64.wrap (bY - ay) = bY - ay from IntWalk.i64_in _ (by omega))
  obtain ⟨d1, hd1⟩ : ∃ d, d = bx - ax := ⟨_, rfl⟩
  obtain ⟨d2, hd2⟩ : ∃ d, d = bY - ay := ⟨_, rfl⟩
  rw [e1] at p1 p2
  rw [e2] at p3 p4
  rw [e1, e2]
  generalize (bx - ax) * g / m = q1 at *
  generalize (bY - ay) * g / m = q2 at *
  have we3 := hide (show IntKind.i64.wrap (ax + q1) = ax + q1 from IntWalk.i64_in _ (by omega))
  have we4 := hide (show IntKind.i64.wrap (ay + q2) = ay + q2 from IntWalk.i64_in _ (by omega))
  clear e1 e2 hd1 hd2 ha hb'
  go_enter Tryd.func57, Tryd.ntmps57
  go_upto_region 1 with fail
  obtain ⟨wT, hT⟩ : ∃ W, W = (w.alloc (.cells #[.int .i64 ax, .int .i64 ay, .int .i64 bx, .int .i64 bY] 85)).alloc (.cells #[.int .i64 g, .int .i64 m] 88) := ⟨_, rfl⟩
  have m1 : wT.cell? ⟨w.heap.size, 0, none⟩ = some (.int .i64 ax) := by rw [hT]; go_simp
  have m2 : wT.cell? ⟨w.heap.size, 1, none⟩ = some (.int .i64 ay) := by rw [hT]; go_simp
  have m3 : wT.cell? ⟨w.heap.size, 2, none⟩ = some (.int .i64 bx) := by rw [hT]; go_simp
  have m4 : wT.cell? ⟨w.heap.size, 3, none⟩ = some (.int .i64 bY) := by rw [hT]; go_simp
  have m5 : wT.cell? ⟨w.heap.size + 1, 0, none⟩ = some (.int .i64 g) := by rw [hT]; go_simp
  have m6 : wT.cell? ⟨w.heap.size + 1, 1, none⟩ = some (.int .i64 m) := by rw [hT]; go_simp
  have HBT := hide (show Below w.heap.size w wT by rw [hT]; exact (by repeat (first | with_reducible exact Below.refl _ _ | with_reducible assumption | with_reducible refine Below.drew ?_ | with_reducible refine below_drewN ?_ _ | with_reducible refine Below.setCell ?_ (by first | exact Nat.le_refl _ | (simp; done) | (simp; omega) | (dsimp only; omega)) _ | with_reducible refine Below.alloc ?_ (by first | exact Nat.le_refl _ | (simp; done) | (simp; omega) | (simp at *; omega)) _ | with_reducible refine bstep ?_ (by assumption))))
  have zT : w.heap.size + 1 < wT.heap.size := by rw [hT]; simp
  have zT0 : w.heap.size < wT.heap.size := by omega
  have hTs : w.heap.size + 1 + 1 = wT.heap.size := by rw [hT]; simp
  rw [← hT, hTs]
  clear hT hTs
  have f1 := we1.out
  have f2 := we2.out
  have f3 := we3.out
  have f4 := we4.out
  refine wp_region_held_drew (S := fun W => Below wT.heap.size wT W) (by kernel_rfl) (Below.drew (Below.alloc (Below.refl _ _) (Nat.le_refl _) _)) (fun hHeld => ?_)
  refine wpAnyH_take (i := 0) (oi := ⟨some 5, _, _, _, _, _⟩) (v := ?_) rfl (by kernel_rfl) (by kernel_rfl) (by kernel_rfl) (fun _ _ _ h => h) (Or.inl ⟨by kernel_rfl, ?_⟩) (by assumption) ?_; rotate_left; focus (intro W0 hSw; go_simp; (try with_reducible rfl)); (try simp only [Act.put, List.setIfInBounds_toArray, List.set_cons_zero, List.set_cons_succ])
  refine wpAnyH_take (i := 1) (oi := ⟨some 6, _, _, _, _, _⟩) (v := ?_) rfl (by kernel_rfl) (by kernel_rfl) (by kernel_rfl) (fun _ _ _ h => h) (Or.inl ⟨by kernel_rfl, ?_⟩) (by assumption) ?_; rotate_left; focus (intro W0 hSw; go_simp; (try with_reducible rfl)); (try simp only [Act.put, List.setIfInBounds_toArray, List.set_cons_zero, List.set_cons_succ])
  refine wpAnyH_take (i := 2) (oi := ⟨some 7, _, _, _, _, _⟩) (v := ?_) rfl (by kernel_rfl) (by kernel_rfl) (by kernel_rfl) (fun _ _ _ h => h) (Or.inl ⟨by kernel_rfl, ?_⟩) (by assumption) ?_; rotate_left; focus (intro W0 hSw; have hcS := (bcell hSw).1; go_simp; (try with_reducible rfl)); (try simp only [Act.put, List.setIfInBounds_toArray, List.set_cons_zero, List.set_cons_succ])
  refine wpAnyH_take (i := 3) (oi := ⟨some 8, _, _, _, _, _⟩) (v := ?_) rfl (by kernel_rfl) (by kernel_rfl) (by kernel_rfl) (fun _ _ _ h => h) (Or.inl ⟨by kernel_rfl, ?_⟩) (by assumption) ?_; rotate_left; focus (intro W0 hSw; go_simp; (try with_reducible rfl)); (try simp only [Act.put, List.setIfInBounds_toArray, List.set_cons_zero, List.set_cons_succ])
  refine wpAnyH_take (i := 4) (oi := ⟨some 9, _, _, _, _, _⟩) (v := ?_) rfl (by kernel_rfl) (by kernel_rfl) (by kernel_rfl) (fun _ _ _ h => h) (Or.inl ⟨by kernel_rfl, ?_⟩) (by assumption) ?_; rotate_left; focus (intro W0 hSw; go_simp; (try with_reducible rfl)); (try simp only [Act.put, List.setIfInBounds_toArray, List.set_cons_zero, List.set_cons_succ])
  refine wpAnyH_take (i := 5) (oi := ⟨some 10, _, _, _, _, _⟩) (v := ?_) rfl (by kernel_rfl) (by kernel_rfl) (by kernel_rfl) (fun _ _ _ h => h) (Or.inl ⟨by kernel_rfl, ?_⟩) (by assumption) ?_; rotate_left; focus (intro W0 hSw; have hcS := (bcell hSw).1; go_simp; (try with_reducible rfl)); (try simp only [Act.put, List.setIfInBounds_toArray, List.set_cons_zero, List.set_cons_succ])
  refine wpAnyH_take (i := 6) (oi := ⟨some 11, _, _, _, _, _⟩) (v := ?_) rfl (by kernel_rfl) (by kernel_rfl) (by kernel_rfl) (fun _ _ _ h => h) (Or.inl ⟨by kernel_rfl, ?_⟩) (by assumption) ?_; rotate_left; focus (intro W0 hSw; go_simp; (try with_reducible rfl)); (try simp only [Act.put, List.setIfInBounds_toArray, List.set_cons_zero, List.set_cons_succ])
  refine wpAnyH_take (i := 7) (oi := ⟨some 12, _, _, _, _, _⟩) (v := ?_) rfl (by kernel_rfl) (by kernel_rfl) (by kernel_rfl) (fun _ _ _ h => h) (Or.inl ⟨by kernel_rfl, ?_⟩) (by assumption) ?_; rotate_left; focus (intro W0 hSw; go_simp; (try with_reducible rfl)); (try simp only [Act.put, List.setIfInBounds_toArray, List.set_cons_zero, List.set_cons_succ])
  refine wpAnyH_take (i := 8) (oi := ⟨some 13, _, _, _, _, _⟩) (v := ?_) rfl (by kernel_rfl) (by kernel_rfl) (by kernel_rfl) (fun _ _ _ h => h) (Or.inl ⟨by kernel_rfl, ?_⟩) (by assumption) ?_; rotate_left; focus (intro W0 hSw; have hcS := (bcell hSw).1; go_simp; (try with_reducible rfl)); (try simp only [Act.put, List.setIfInBounds_toArray, List.set_cons_zero, List.set_cons_succ])
  refine wpAnyH_take (i := 9) (oi := ⟨some 14, _, _, _, _, _⟩) (v := ?_) rfl (by kernel_rfl) (by kernel_rfl) (by kernel_rfl) (fun _ _ _ h => h) (Or.inl ⟨by kernel_rfl, ?_⟩) (by assumption) ?_; rotate_left; focus (intro W0 hSw; go_simp; (try with_reducible rfl)); (try simp only [Act.put, List.setIfInBounds_toArray, List.set_cons_zero, List.set_cons_succ])
  refine wpAnyH_take (i := 10) (oi := ⟨some 15, _, _, _, _, _⟩) (v := ?_) rfl (by kernel_rfl) (by kernel_rfl) (by kernel_rfl) (fun _ _ _ h => h) (Or.inl ⟨by kernel_rfl, ?_⟩) (by assumption) ?_; rotate_left; focus (intro W0 hSw; have hcS := (bcell hSw).1; go_simp; (try with_reducible rfl)); (try simp only [Act.put, List.setIfInBounds_toArray, List.set_cons_zero, List.set_cons_succ])
  refine wpAnyH_take (i := 13) (oi := ⟨some 18, _, _, _, _, _⟩) (v := ?_) rfl (by kernel_rfl) (by kernel_rfl) (by kernel_rfl) (fun _ _ _ h => h) (Or.inl ⟨by kernel_rfl, ?_⟩) (by assumption) ?_; rotate_left; focus (intro W0 hSw; go_simp; (try with_reducible rfl)); (try simp only [Act.put, List.setIfInBounds_toArray, List.set_cons_zero, List.set_cons_succ])
  refine wpAnyH_take (i := 14) (oi := ⟨some 19, _, _, _, _, _⟩) (v := ?_) rfl (by kernel_rfl) (by kernel_rfl) (by kernel_rfl) (fun _ _ _ h => h) (Or.inl ⟨by kernel_rfl, ?_⟩) (by assumption) ?_; rotate_left; focus (intro W0 hSw; go_simp; (try with_reducible rfl)); (try simp only [Act.put, List.setIfInBounds_toArray, List.set_cons_zero, List.set_cons_succ])
  refine wpAnyH_take (i := 15) (oi := ⟨some 20, _, _, _, _, _⟩) (v := ?_) rfl (by kernel_rfl) (by kernel_rfl) (by kernel_rfl) (fun _ _ _ h => h) (Or.inl ⟨by kernel_rfl, ?_⟩) (by assumption) ?_; rotate_left; focus (intro W0 hSw; have hcS := (bcell hSw).1; go_simp; (try with_reducible rfl)); (try simp only [Act.put, List.setIfInBounds_toArray, List.set_cons_zero, List.set_cons_succ])
  refine wpAnyH_take (i := 16) (oi := ⟨some 21, _, _, _, _, _⟩) (v := ?_) rfl (by kernel_rfl) (by kernel_rfl) (by kernel_rfl) (fun _ _ _ h => h) (Or.inl ⟨by kernel_rfl, ?_⟩) (by assumption) ?_; rotate_left; focus (intro W0 hSw; go_simp; (try with_reducible rfl)); (try simp only [Act.put, List.setIfInBounds_toArray, List.set_cons_zero, List.set_cons_succ])
  refine wpAnyH_take (i := 17) (oi := ⟨some 22, _, _, _, _, _⟩) (v := ?_) rfl (by kernel_rfl) (by kernel_rfl) (by kernel_rfl) (fun _ _ _ h => h) (Or.inl ⟨by kernel_rfl, ?_⟩) (by assumption) ?_; rotate_left; focus (intro W0 hSw; go_simp; (try with_reducible rfl)); (try simp only [Act.put, List.setIfInBounds_toArray, List.set_cons_zero, List.set_cons_succ])
  refine wpAnyH_take (i := 18) (oi := ⟨some 23, _, _, _, _, _⟩) (v := ?_) rfl (by kernel_rfl) (by kernel_rfl) (by kernel_rfl) (fun _ _ _ h => h) (Or.inl ⟨by kernel_rfl, ?_⟩) (by assumption) ?_; rotate_left; focus (intro W0 hSw; have hcS := (bcell hSw).1; go_simp; (try with_reducible rfl)); (try simp only [Act.put, List.setIfInBounds_toArray, List.set_cons_zero, List.set_cons_succ])
  refine wpAnyH_take (i := 19) (oi := ⟨some 24, _, _, _, _, _⟩) (v := ?_) rfl (by kernel_rfl) (by kernel_rfl) (by kernel_rfl) (fun _ _ _ h => h) (Or.inl ⟨by kernel_rfl, ?_⟩) (by assumption) ?_; rotate_left; focus (intro W0 hSw; go_simp; (try with_reducible rfl)); (try simp only [Act.put, List.setIfInBounds_toArray, List.set_cons_zero, List.set_cons_succ])
  refine wpAnyH_take (i := 20) (oi := ⟨some 25, _, _, _, _, _⟩) (v := ?_) rfl (by kernel_rfl) (by kernel_rfl) (by kernel_rfl) (fun _ _ _ h => h) (Or.inl ⟨by kernel_rfl, ?_⟩) (by assumption) ?_; rotate_left; focus (intro W0 hSw; go_simp; (try with_reducible rfl)); (try simp only [Act.put, List.setIfInBounds_toArray, List.set_cons_zero, List.set_cons_succ])
  refine wpAnyH_take (i := 21) (oi := ⟨some 26, _, _, _, _, _⟩) (v := ?_) rfl (by kernel_rfl) (by kernel_rfl) (by kernel_rfl) (fun _ _ _ h => h) (Or.inl ⟨by kernel_rfl, ?_⟩) (by assumption) ?_; rotate_left; focus (intro W0 hSw; have hcS := (bcell hSw).1; go_simp; (try with_reducible rfl)); (try simp only [Act.put, List.setIfInBounds_toArray, List.set_cons_zero, List.set_cons_succ])
  refine wpAnyH_take (i := 22) (oi := ⟨some 27, _, _, _, _, _⟩) (v := ?_) rfl (by kernel_rfl) (by kernel_rfl) (by kernel_rfl) (fun _ _ _ h => h) (Or.inl ⟨by kernel_rfl, ?_⟩) (by assumption) ?_; rotate_left; focus (intro W0 hSw; go_simp; (try with_reducible rfl)); (try simp only [Act.put, List.setIfInBounds_toArray, List.set_cons_zero, List.set_cons_succ])
  refine wpAnyH_take (i := 23) (oi := ⟨some 28, _, _, _, _, _⟩) (v := ?_) rfl (by kernel_rfl) (by kernel_rfl) (by kernel_rfl) (fun _ _ _ h => h) (Or.inl ⟨by kernel_rfl, ?_⟩) (by assumption) ?_; rotate_left; focus (intro W0 hSw; have hcS := (bcell hSw).1; go_simp; (try with_reducible rfl)); (try simp only [Act.put, List.setIfInBounds_toArray, List.set_cons_zero, List.set_cons_succ])
  refine wpAnyH_ready (rs := [11]) (by kernel_rfl) (by simp) ?_; refine (AllReadyH.cons (o := ⟨some 16, _, _, _, _, _⟩) rfl (fun K hK => ?_) AllReadyH.nil)
  go_simp; (first | (go_at_call 89; (with_reducible refine (KX.out _).mono ?_); rintro e w9 ⟨rfl, hb⟩; have hzz := hb.size; (try simp at hzz); have hn0 : ¬ w9.heap.size = wT.heap.size := (by omega); have hm0 : ¬ wT.heap.size = w9.heap.size := (by omega); have z0 : wT.heap.size < w9.heap.size := (by omega); obtain ⟨hc, hf⟩ := bcell hb) | (go_at_call 89; (with_reducible refine (KY.out _).mono ?_); rintro e w9 ⟨rfl, hb⟩; have hzz := hb.size; (try simp at hzz); have hn0 : ¬ w9.heap.size = wT.heap.size := (by omega); have hm0 : ¬ wT.heap.size = w9.heap.size := (by omega); have z0 : wT.heap.size < w9.heap.size := (by omega); obtain ⟨hc, hf⟩ := bcell hb))
  all_goals (try go_wp2_with fail)
  refine hK.out _ _ ?_ (fun hH2 => ?_)
  · first | exact bstep hHeld hb | exact hHeld.trans hb | exact hHeld
  clear hK K hHeld; (have hHeld := hH2); clear hH2; (try simp only [Act.put, List.setIfInBounds_toArray, List.set_cons_zero, List.set_cons_succ])
  refine wpAnyH_take (i := 12) (oi := ⟨some 17, _, _, _, _, _⟩) (v := ?_) rfl (by kernel_rfl) (by kernel_rfl) (by kernel_rfl) (fun _ _ _ h => h) (Or.inl ⟨by kernel_rfl, ?_⟩) (by assumption) ?_; rotate_left; focus (intro W0 hSw; go_simp; (try with_reducible rfl)); (try simp only [Act.put, List.setIfInBounds_toArray, List.set_cons_zero, List.set_cons_succ])
  refine wpAnyH_ready (rs := [24]) (by kernel_rfl) (by simp) ?_; refine (AllReadyH.cons (o := ⟨some 29, _, _, _, _, _⟩) rfl (fun K hK => ?_) AllReadyH.nil)
  go_simp; (first | (go_at_call 89; (with_reducible refine (KX.out _).mono ?_); rintro e w9 ⟨rfl, hb⟩; have hzz := hb.size; (try simp at hzz); have hn0 : ¬ w9.heap.size = wT.heap.size := (by omega); have hm0 : ¬ wT.heap.size = w9.heap.size := (by omega); have z0 : wT.heap.size < w9.heap.size := (by omega); obtain ⟨hc, hf⟩ := bcell hb) | (go_at_call 89; (with_reducible refine (KY.out _).mono ?_); rintro e w9 ⟨rfl, hb⟩; have hzz := hb.size; (try simp at hzz); have hn0 : ¬ w9.heap.size = wT.heap.size := (by omega); have hm0 : ¬ wT.heap.size = w9.heap.size := (by omega); have z0 : wT.heap.size < w9.heap.size := (by omega); obtain ⟨hc, hf⟩ := bcell hb))
  all_goals (try go_wp2_with fail)
  refine hK.out _ _ ?_ (fun hH2 => ?_)
  · first | exact bstep hHeld hb | exact hHeld.trans hb | exact hHeld
  clear hK K hHeld; (have hHeld := hH2); clear hH2; (try simp only [Act.put, List.setIfInBounds_toArray, List.set_cons_zero, List.set_cons_succ])
  refine wpAnyH_take (i := 25) (oi := ⟨some 30, _, _, _, _, _⟩) (v := ?_) rfl (by kernel_rfl) (by kernel_rfl) (by kernel_rfl) (fun _ _ _ h => h) (Or.inl ⟨by kernel_rfl, ?_⟩) (by assumption) ?_; rotate_left; focus (intro W0 hSw; go_simp; (try with_reducible rfl)); (try simp only [Act.put, List.setIfInBounds_toArray, List.set_cons_zero, List.set_cons_succ])
  refine wpAnyH_take (i := 26) (oi := ⟨some 31, _, _, _, _, _⟩) (v := ?_) rfl (by kernel_rfl) (by kernel_rfl) (by kernel_rfl) (fun _ _ _ h => h) (Or.inl ⟨by kernel_rfl, ?_⟩) (by assumption) ?_; rotate_left; focus (intro W0 hSw; go_simp; (try with_reducible rfl)); (try simp only [Act.put, List.setIfInBounds_toArray, List.set_cons_zero, List.set_cons_succ])
  refine wpAnyH_ready (rs := [27]) (by kernel_rfl) (by simp) ?_; refine (AllReadyH.cons (o := ⟨none, _, _, _, _, _⟩) rfl (fun K hK => ?_) AllReadyH.nil)
  go_simp
  all_goals (try go_wp2_with fail)
  refine hK.out _ _ ?_ (fun hH2 => ?_)
  · exact (by repeat (first | with_reducible exact Below.refl _ _ | with_reducible assumption | with_reducible refine Below.drew ?_ | with_reducible refine below_drewN ?_ _ | with_reducible refine Below.setCell ?_ (by first | exact Nat.le_refl _ | (simp; done) | (simp; omega) | (dsimp only; omega)) _ | with_reducible refine Below.alloc ?_ (by first | exact Nat.le_refl _ | (simp; done) | (simp; omega) | (simp at *; omega)) _ | with_reducible refine bstep ?_ (by assumption)))
  clear hK K hHeld; (have hHeld := hH2); clear hH2; (try simp only [Act.put, List.setIfInBounds_toArray, List.set_cons_zero, List.set_cons_succ])
  refine wpAnyH_done (by kernel_rfl) ?_ _; (try simp only [Act.put, List.setIfInBounds_toArray, List.set_cons_zero, List.set_cons_succ])
  clear f1 f2 f3 f4
  go_wp2
  simp [bodyPost, results, Tryd.results57, go_sem, *]
  all_goals exact HBT.out.trans (hHeld.mono (by omega))
set_option maxRecDepth 100000 in
set_option maxHeartbeats 4000000 in
theorem spec_l02Nearest (ax ay bx bY px py : Int) (g1 : isSg ax ay bx bY = true) (g2 : isPt px py = true) (w : World) :
    Calls Tryd.prog 83 #[.agg #[.int .i64 ax, .int .i64 ay, .int .i64 bx, .int .i64 bY], .agg #[.int .i64 px, .int .i64 py]] w fun e w' => e = .returned (.agg #[.int .i64 (npG ax ay bx bY px py), .int .i64 (npM ax ay bx bY px py)]) ∧ Below w.heap.size w w' := by
  obtain ⟨ha, hb, m1⟩ := isSg_t g1
  obtain ⟨s1, s2⟩ := pt_sm ha
  obtain ⟨s3, s4⟩ := pt_sm hb
  obtain ⟨s5, s6⟩ := pt_sm g2
  have m2 := (sq_pt ha hb).2
  obtain ⟨f0, f1, _, _⟩ := pt_bd3 ha hb g2
  have hm : (bx - ax) * (bx - ax) + (bY - ay) * (bY - ay) = sq ax ay bx bY := by unfold sq; grind
  have hf : (bx - ax) * (px - ax) + (bY - ay) * (py - ay) = farI ax ay bx bY px py := by unfold farI; grind
  have t1 := sm_mul s3 s1 s5 s1
  have t2 := sm_mul s4 s2 s6 s2
  have t3 := sm_mul s3 s1 s3 s1
  have t4 := sm_mul s4 s2 s4 s2
  have KD1 := hide (fun W => hf ▸ spec_l01Dot (bx - ax) (bY - ay) (px - ax) (py - ay) t1 t2 W)
  have KD2 := hide (fun W => hm ▸ spec_l01Dot (bx - ax) (bY - ay) (bx - ax) (bY - ay) t3 t4 W)
  have KM1 := hide (fun W => spec_l01Minus bx bY ax ay s3 s4 s1 s2 W)
  have KM2 := hide (fun W => spec_l01Minus px py ax ay s5 s6 s1 s2 W)
  obtain ⟨b0, b1⟩ := npN_bd (farI ax ay bx bY px py) (show 0 ≤ sq ax ay bx bY by omega)
  have KR := hide (fun W => spec_l02Ratio (npN (farI ax ay bx bY px py) (sq ax ay bx bY)) (sq ax ay bx bY) b0 (by omega) m1 (by omega) W)
  have hn : npN (farI ax ay bx bY px py) (sq ax ay bx bY) = if farI ax ay bx bY px py < 0 then 0 else if sq ax ay bx bY < farI ax ay bx bY px py then sq ax ay bx bY else farI ax ay bx bY px py := rfl
  unfold npG npM
  generalize npN (farI ax ay bx bY px py) (sq ax ay bx bY) = n9 at *
  generalize gdI n9 (sq ax ay bx bY) = g9 at *
  generalize sq ax ay bx bY = m9 at *
  generalize farI ax ay bx bY px py = f9 at *
  clear ha hb g1 g2 s1 s2 s3 s4 s5 s6 hm hf t1 t2 t3 t4
  have hcase : (f9 < 0 ∧ n9 = 0) ∨ (f9 = 0 ∧ n9 = 0) ∨ (0 < f9 ∧ f9 < m9 ∧ n9 = f9) ∨ (0 < f9 ∧ f9 = m9 ∧ n9 = m9) ∨ (0 < f9 ∧ m9 < f9 ∧ n9 = m9) := by
    split at hn
    · omega
    · split at hn <;> omega
  clear hn
  generalize bx - ax = d1 at *
  generalize bY - ay = d2 at *
  generalize px - ax = d3 at *
  generalize py - ay = d4 at *
  rcases hcase with ⟨k1, rfl⟩ | ⟨rfl, rfl⟩ | ⟨k1, k2, rfl⟩ | ⟨k1, rfl, rfl⟩ | ⟨k1, k2, rfl⟩
  all_goals
    go_enter Tryd.func83, Tryd.ntmps83
    go_wp2_with fail; (with_reducible refine (KM1.out _).mono ?_); rintro e wA ⟨rfl, hb⟩
    have k0 : wA.cell? ⟨w.heap.size, 0, none⟩ = some (.int .i64 ax) := cell_later hb (by go_simp)
    have k3 : wA.cell? ⟨w.heap.size, 1, none⟩ = some (.int .i64 ay) := cell_later hb (by go_simp)
    have k4 : wA.cell? ⟨w.heap.size + 1, 0, none⟩ = some (.int .i64 px) := cell_later hb (by go_simp)
    have k5 : wA.cell? ⟨w.heap.size + 1, 1, none⟩ = some (.int .i64 py) := cell_later hb (by go_simp)
    have k6 : wA.cell? ⟨w.heap.size + 1 + 1, 0, none⟩ = some (.int .i64 0) := cell_later hb (by go_simp)
    have k7 : wA.cell? ⟨w.heap.size + 1 + 1, 1, none⟩ = some (.int .i64 0) := cell_later hb (by go_simp)
    have k8 : wA.frozen? ⟨w.heap.size + 1 + 1, 0, none⟩ = false := frozen_later hb (by go_simp; rfl) (by go_simp)
    have k9 : wA.frozen? ⟨w.heap.size + 1 + 1, 1, none⟩ = false := frozen_later hb (by go_simp; rfl) (by go_simp)
    have HA := hide (show Below w.heap.size w wA from (by repeat (first | with_reducible exact Below.refl _ _ | with_reducible assumption | with_reducible refine Below.drew ?_ | with_reducible refine below_drewN ?_ _ | with_reducible refine Below.setCell ?_ (by first | exact Nat.le_refl _ | (simp; done) | (simp; omega) | (dsimp only; omega)) _ | with_reducible refine Below.alloc ?_ (by first | exact Nat.le_refl _ | (simp; done) | (simp; omega) | (simp at *; omega)) _ | with_reducible refine bstep ?_ (by assumption))))
    have zA : w.heap.size + 1 + 1 < wA.heap.size := World.block_lt_of_cell? _ _ k6
    clear hb
    go_upto_region 2 with fail
    obtain ⟨wB, hB⟩ : ∃ W, W = wA.alloc (.cells #[.int .i64 d1, .int .i64 d2] 36) := ⟨_, rfl⟩
    have l0 : wB.cell? ⟨w.heap.size, 0, none⟩ = some (.int .i64 ax) := by rw [hB]; exact cell_alloc k0
    have l1 : wB.cell? ⟨w.heap.size, 1, none⟩ = some (.int .i64 ay) := by rw [hB]; exact cell_alloc k3
    have l2 : wB.cell? ⟨w.heap.size + 1, 0, none⟩ = some (.int .i64 px) := by rw [hB]; exact cell_alloc k4
    have l3 : wB.cell? ⟨w.heap.size + 1, 1, none⟩ = some (.int .i64 py) := by rw [hB]; exact cell_alloc k5
    have l4 : wB.cell? ⟨w.heap.size + 1 + 1, 0, none⟩ = some (.int .i64 0) := by rw [hB]; exact cell_alloc k6
    have l5 : wB.cell? ⟨w.heap.size + 1 + 1, 1, none⟩ = some (.int .i64 0) := by rw [hB]; exact cell_alloc k7
    have l6 : wB.frozen? ⟨w.heap.size + 1 + 1, 0, none⟩ = false := by rw [hB]; exact frozen_alloc k6 k8
    have l7 : wB.frozen? ⟨w.heap.size + 1 + 1, 1, none⟩ = false := by rw [hB]; exact frozen_alloc k7 k9
    have l8 : wB.cell? ⟨wA.heap.size, 0, none⟩ = some (.int .i64 d1) := by rw [hB]; go_simp
    have l9 : wB.cell? ⟨wA.heap.size, 1, none⟩ = some (.int .i64 d2) := by rw [hB]; go_simp
    have HBB := hide (show Below w.heap.size w wB by rw [hB]; exact Below.alloc HA.out (by omega) _)
    have zB : wA.heap.size < wB.heap.size := by rw [hB]; simp
    have zB2 : w.heap.size + 1 + 1 < wB.heap.size := by omega
    have zB1 : w.heap.size + 1 < wB.heap.size := by omega
    have zB0 : w.heap.size < wB.heap.size := by omega
    rw [← hB]
    clear hB k0 k3 k4 k5 k6 k7 k8 k9 HA
    refine wp_region_held_drew (S := fun W => Below wB.heap.size wB W) (by kernel_rfl) (Below.drew (Below.refl _ _)) (fun hHeld => ?_)
    refine wpAnyH_take (i := 0) (oi := ⟨some 13, _, _, _, _, _⟩) (v := ?_) rfl (by kernel_rfl) (by kernel_rfl) (by kernel_rfl) (fun _ _ _ h => h) (Or.inl ⟨by kernel_rfl, ?_⟩) (by assumption) ?_; rotate_left; focus (intro W0 hSw; have hcS := (bcell hSw).1; go_simp; (try with_reducible rfl)); (try simp only [Act.put, List.setIfInBounds_toArray, List.set_cons_zero, List.set_cons_succ])
    refine wpAnyH_take (i := 1) (oi := ⟨some 14, _, _, _, _, _⟩) (v := ?_) rfl (by kernel_rfl) (by kernel_rfl) (by kernel_rfl) (fun _ _ _ h => h) (Or.inl ⟨by kernel_rfl, ?_⟩) (by assumption) ?_; rotate_left; focus (intro W0 hSw; have hcS := (bcell hSw).1; go_simp; (try with_reducible rfl)); (try simp only [Act.put, List.setIfInBounds_toArray, List.set_cons_zero, List.set_cons_succ])
    refine wpAnyH_take (i := 2) (oi := ⟨some 15, _, _, _, _, _⟩) (v := ?_) rfl (by kernel_rfl) (by kernel_rfl) (by kernel_rfl) (fun _ _ _ h => h) (Or.inl ⟨by kernel_rfl, ?_⟩) (by assumption) ?_; rotate_left; focus (intro W0 hSw; go_simp; (try with_reducible rfl)); (try simp only [Act.put, List.setIfInBounds_toArray, List.set_cons_zero, List.set_cons_succ])
    refine wpAnyH_take (i := 3) (oi := ⟨some 16, _, _, _, _, _⟩) (v := ?_) rfl (by kernel_rfl) (by kernel_rfl) (by kernel_rfl) (fun _ _ _ h => h) (Or.inl ⟨by kernel_rfl, ?_⟩) (by assumption) ?_; rotate_left; focus (intro W0 hSw; have hcS := (bcell hSw).1; go_simp; (try with_reducible rfl)); (try simp only [Act.put, List.setIfInBounds_toArray, List.set_cons_zero, List.set_cons_succ])
    refine wpAnyH_ready (rs := [4]) (by kernel_rfl) (by simp) ?_; refine (AllReadyH.cons (o := ⟨some 17, _, _, _, _, _⟩) rfl (fun K hK => ?_) AllReadyH.nil)
    go_simp; (first | (go_at_call 71; (with_reducible refine (KM2.out _).mono ?_); rintro e w9 ⟨rfl, hb⟩; have hzz := hb.size; (try simp at hzz); obtain ⟨hc, hf⟩ := bcell hb) | (go_at_call 70; (with_reducible refine (KD1.out _).mono ?_); rintro e w9 ⟨rfl, hb⟩; have hzz := hb.size; (try simp at hzz); obtain ⟨hc, hf⟩ := bcell hb))
    all_goals (try go_wp2_with fail)
    refine hK.out _ _ ?_ (fun hH2 => ?_)
    · first | exact bstep hHeld hb | exact hHeld.trans hb | exact hHeld
    clear hK K hHeld; (have hHeld := hH2); clear hH2; (try simp only [Act.put, List.setIfInBounds_toArray, List.set_cons_zero, List.set_cons_succ])
    refine wpAnyH_ready (rs := [5]) (by kernel_rfl) (by simp) ?_; refine (AllReadyH.cons (o := ⟨some 18, _, _, _, _, _⟩) rfl (fun K hK => ?_) AllReadyH.nil)
    go_simp; (first | (go_at_call 71; (with_reducible refine (KM2.out _).mono ?_); rintro e w9 ⟨rfl, hb⟩; have hzz := hb.size; (try simp at hzz); obtain ⟨hc, hf⟩ := bcell hb) | (go_at_call 70; (with_reducible refine (KD1.out _).mono ?_); rintro e w9 ⟨rfl, hb⟩; have hzz := hb.size; (try simp at hzz); obtain ⟨hc, hf⟩ := bcell hb))
    all_goals (try go_wp2_with fail)
    refine hK.out _ _ ?_ (fun hH2 => ?_)
    · first | exact bstep hHeld hb | exact hHeld.trans hb | exact hHeld
    clear hK K hHeld; (have hHeld := hH2); clear hH2; (try simp only [Act.put, List.setIfInBounds_toArray, List.set_cons_zero, List.set_cons_succ])
    refine wpAnyH_take (i := 6) (oi := ⟨some 6, _, _, _, _, _⟩) (v := ?_) rfl (by kernel_rfl) (by kernel_rfl) (by kernel_rfl) (fun _ _ _ h => h) (Or.inl ⟨by kernel_rfl, ?_⟩) (by assumption) ?_; rotate_left; focus (intro W0 hSw; go_simp; (try with_reducible rfl)); (try simp only [Act.put, List.setIfInBounds_toArray, List.set_cons_zero, List.set_cons_succ])
    refine wpAnyH_done (by kernel_rfl) ?_ _; (try simp only [Act.put, List.setIfInBounds_toArray, List.set_cons_zero, List.set_cons_succ])
    obtain ⟨wC, rfl⟩ : ∃ W : World, W = w9 := ⟨_, rfl⟩
    have j4 := cell_later hHeld l4
    have j5 := cell_later hHeld l5
    have j6 := frozen_later hHeld l4 l6
    have j7 := frozen_later hHeld l5 l7
    have j8 := cell_later hHeld l8
    have j9 := cell_later hHeld l9
    have HBC := hide (bstep HBB.out hHeld)
    have zC := hHeld.size
    have zC0 : wA.heap.size < wC.heap.size := by omega
    have zC2 : w.heap.size + 1 + 1 < wC.heap.size := by omega
    clear hHeld l0 l1 l2 l3 l4 l5 l6 l7 l8 l9 hb hc hf hzz
    go_wp2_with (first | (go_at_call 70; (with_reducible refine (KD2.out _).mono ?_); rintro e wD ⟨rfl, hb⟩; obtain ⟨hc, hf⟩ := bcell hb; have zD := hb.size) | (go_at_call 101; (with_reducible refine (KR.out _).mono ?_); rintro e wE ⟨rfl, hb2⟩; obtain ⟨hc2, hf2⟩ := bcell hb2; have zE := hb2.size; have zE2 : w.heap.size + 1 + 1 < wE.heap.size := (by omega); have zD2 : w.heap.size + 1 + 1 < wD.heap.size := (by omega)))
    have HBE := hide (HBC.out.trans ((hb.mono (show w.heap.size ≤ _ by omega)).trans (hb2.mono (show w.heap.size ≤ _ by omega))))
    simp [bodyPost, results, Tryd.results83, go_sem, *]
  all_goals exact Below.setCell (Below.setCell HBE.out (by dsimp only; omega) _) (by dsimp only; omega) _
end Go.Proofs.YtlllfklehbjneaaDoor
