/- Walks: the nearest place of a segment to a point; the point at a place; the nearest point of a leg; of both. -/
import Derived.Test.YtgcdgdnmcdffoaaGreatDoorGd
import Derived.Test.YtgcdgdnmcdffoaaGreatDoorTe
import Derived.Test.YtgcdgdnmcdffoaaGreatDoorBp
import Derived.Test.YtgcdgdnmcdffoaaGreatDoorZl
import Derived.Test.YtgcdgdnmcdffoaaGreatDoorZa
namespace Go.Proofs.YtgcdgdnmcdffoaaGreatDoor
open Go.RowKit

/-- A number brought to 0 .. m. -/
def npN (f m : Int) : Int := if f < 0 then 0 else if m < f then m else f
theorem npN_bd (f : Int) {m : Int} (h : 0 ≤ m) : 0 ≤ npN f m ∧ npN f m ≤ m := by unfold npN; split <;> (try split) <;> omega
/-- The nearest place: its numerator, its denominator. -/
def npG (ax ay bx bY px py : Int) : Int := npN (farI ax ay bx bY px py) (sq ax ay bx bY) / gdI (npN (farI ax ay bx bY px py) (sq ax ay bx bY)) (sq ax ay bx bY)
def npM (ax ay bx bY px py : Int) : Int := sq ax ay bx bY / gdI (npN (farI ax ay bx bY px py) (sq ax ay bx bY)) (sq ax ay bx bY)
theorem np_facts {ax ay bx bY : Int} (px py : Int) (h : isSg ax ay bx bY = true) : 0 ≤ npG ax ay bx bY px py ∧ npG ax ay bx bY px py ≤ npM ax ay bx bY px py ∧ 1 ≤ npM ax ay bx bY px py ∧ npM ax ay bx bY px py ≤ 8000000000000 := by
 obtain ⟨ha, hb, m1⟩ := isSg_t h
 have m2 := (sq_pt ha hb).2
 obtain ⟨b0, b1⟩ := npN_bd (farI ax ay bx bY px py) (show 0 ≤ sq ax ay bx bY by omega)
 obtain ⟨p1, p2, p3, p4⟩ := pl_facts b0 b1 m1
 exact ⟨p1, p2, p3, by unfold npM; omega⟩
set_option maxHeartbeats 4000000 in
theorem impl_NearestPlace_ok (ax ay bx bY px py : Int) (g1 : isSg ax ay bx bY = true) (g2 : isPt px py = true) (w : World) :
 Calls Tryz.prog 54 #[.agg #[.int .i64 ax, .int .i64 ay, .int .i64 bx, .int .i64 bY], .agg #[.int .i64 px, .int .i64 py]] w fun e w' => e = .returned (.tuple #[.agg #[.int .i64 (npG ax ay bx bY px py), .int .i64 (npM ax ay bx bY px py)], .int .i64 0]) ∧ Below w.heap.size w w' := by
 obtain ⟨ha, hb, m1⟩ := isSg_t g1
 obtain ⟨s1, s2⟩ := pt_sm ha
 obtain ⟨s3, s4⟩ := pt_sm hb
 obtain ⟨s5, s6⟩ := pt_sm g2
 have m2 := (sq_pt ha hb).2
 obtain ⟨f0, f1, _, _⟩ := pt_bd3 ha hb g2
 have KS := hide (fun W => g1 ▸ impl_IsSegment ax ay bx bY W)
 have KP := hide (fun W => g2 ▸ impl_IsPoint px py W)
 have KA := hide (fun W => impl_along ax ay bx bY px py s1 s2 s3 s4 s5 s6 W)
 obtain ⟨b0, b1⟩ := npN_bd (farI ax ay bx bY px py) (show 0 ≤ sq ax ay bx bY by omega)
 have KL := hide (fun W => impl_lowest (npN (farI ax ay bx bY px py) (sq ax ay bx bY)) (sq ax ay bx bY) b0 (by omega) m1 (by omega) W)
 have hn : npN (farI ax ay bx bY px py) (sq ax ay bx bY) = if farI ax ay bx bY px py < 0 then 0 else if sq ax ay bx bY < farI ax ay bx bY px py then sq ax ay bx bY else farI ax ay bx bY px py := rfl
 unfold npG npM
 generalize npN (farI ax ay bx bY px py) (sq ax ay bx bY) = n9 at *
 generalize gdI n9 (sq ax ay bx bY) = g9 at *
 generalize sq ax ay bx bY = m9 at *
 generalize farI ax ay bx bY px py = f9 at *
 clear ha hb g1 g2 s1 s2 s3 s4 s5 s6
 have hcase : (f9 < 0 ∧ n9 = 0) ∨ (f9 = 0 ∧ n9 = 0) ∨ (0 < f9 ∧ f9 < m9 ∧ n9 = f9) ∨ (0 < f9 ∧ f9 = m9 ∧ n9 = m9) ∨ (0 < f9 ∧ m9 < f9 ∧ n9 = m9) := by
  split at hn
  ·omega
  ·split at hn <;> omega
 clear hn
 have em1 : max 0 (min f9 m9) = n9 := by omega
 have em2 : min m9 (max 0 f9) = n9 := by omega
 have em3 : max 0 n9 = n9 := by omega
 have em4 : min m9 n9 = n9 := by omega
 rcases hcase with ⟨k1, rfl⟩ | ⟨rfl, rfl⟩ | ⟨k1, k2, rfl⟩ | ⟨k1, rfl, rfl⟩ | ⟨k1, k2, rfl⟩
 all_goals
  go_enter Tryz.func54, Tryz.ntmps54
  go_wp2_with (first | (go_at_call 96; (with_reducible refine (KS.out _).mono ?_); rintro e w9 ⟨rfl, hb⟩; obtain ⟨hc, hf⟩ := bcell hb; have hz := hb.size; have z0 : w.heap.size < w9.heap.size := (by first | omega | (simp at hz; omega)); have z1 : w.heap.size + 1 < w9.heap.size := (by first | omega | (simp at hz; omega)); have z2 : w.heap.size + 1 + 1 < w9.heap.size := (by first | omega | (simp at hz; omega))) | (go_at_call 51; (with_reducible refine (KP.out _).mono ?_); rintro e w9 ⟨rfl, hb⟩; obtain ⟨hc, hf⟩ := bcell hb; have hz := hb.size; have z0 : w.heap.size < w9.heap.size := (by first | omega | (simp at hz; omega)); have z1 : w.heap.size + 1 < w9.heap.size := (by first | omega | (simp at hz; omega)); have z2 : w.heap.size + 1 + 1 < w9.heap.size := (by first | omega | (simp at hz; omega))) | (go_at_call 97; (with_reducible refine (KA.out _).mono ?_); rintro e w9 ⟨rfl, hb⟩; obtain ⟨hc, hf⟩ := bcell hb; have hz := hb.size; have z0 : w.heap.size < w9.heap.size := (by first | omega | (simp at hz; omega)); have z1 : w.heap.size + 1 < w9.heap.size := (by first | omega | (simp at hz; omega)); have z2 : w.heap.size + 1 + 1 < w9.heap.size := (by first | omega | (simp at hz; omega))) | (go_at_call 98; (with_reducible refine (KL.out _).mono ?_); rintro e w9 ⟨rfl, hb⟩; obtain ⟨hc, hf⟩ := bcell hb; have hz := hb.size; have z0 : w.heap.size < w9.heap.size := (by first | omega | (simp at hz; omega)); have z1 : w.heap.size + 1 < w9.heap.size := (by first | omega | (simp at hz; omega)); have z2 : w.heap.size + 1 + 1 < w9.heap.size := (by first | omega | (simp at hz; omega))))
  simp [bodyPost, results, Tryz.results54, go_sem, *]
 all_goals exact bwz
set_option maxRecDepth 100000 in
set_option maxHeartbeats 4000000 in
theorem impl_pointAt (ax ay bx bY g m : Int) (ha : isPt ax ay = true) (hb' : isPt bx bY = true) (h1 : 0 ≤ g) (h2 : g ≤ m) (h3 : 1 ≤ m) (h4 : m ≤ 9000000000000) (w : World) :
 Calls Tryz.prog 55 #[.agg #[.int .i64 ax, .int .i64 ay, .int .i64 bx, .int .i64 bY], .agg #[.int .i64 g, .int .i64 m]] w fun e w' => e = .returned (.agg #[.int .i64 (posI ax bx g m), .int .i64 (posI ay bY g m)]) ∧ Below w.heap.size w w' := by
 obtain ⟨x1, x2, x3, x4⟩ := isPt_t ha
 obtain ⟨y1, y2, y3, y4⟩ := isPt_t hb'
 obtain ⟨p1, p2⟩ := posI_bd x1 x2 y1 y2 h1 h2 (by omega)
 obtain ⟨p3, p4⟩ := posI_bd x3 x4 y3 y4 h1 h2 (by omega)
 have KX := hide (fun W => impl_partOf (bx - ax) g m (by omega) (by omega) h1 h2 h3 h4 W)
 have KY := hide (fun W => impl_partOf (bY - ay) g m (by omega) (by omega) h1 h2 h3 h4 W)
 have e1 : posI ax bx g m = ax + (bx - ax) * g / m := rfl
 have e2 : posI ay bY g m = ay + (bY - ay) * g / m := rfl
 have we1 := hide (show IntKind.i64.wrap (bx - ax) = bx - ax from IntWalk.i64_in _ (by omega))
 have we2 := hide (show IntKind.i64.wrap (bY - ay) = bY - ay from IntWalk.i64_in _ (by omega))
 obtain ⟨d1, hd1⟩ : ∃ d, d = bx - ax := ⟨_, rfl⟩
 obtain ⟨d2, hd2⟩ : ∃ d, d = bY - ay := ⟨_, rfl⟩
 rw [e1] at p1 p2
 rw [e2] at p3 p4
 rw [e1, e2]
 generalize (bx - ax) * g / m = q1 at *
 generalize (bY - ay) * g / m = q2 at *
 have we3 := hide (show IntKind.i64.wrap (ax + q1) = ax + q1 from IntWalk.i64_in _ (by omega))
 have we4 := hide (show IntKind.i64.wrap (ay + q2) = ay + q2 from IntWalk.i64_in _ (by omega))
 clear e1 e2 hd1 hd2 ha hb'
 go_enter Tryz.func55, Tryz.ntmps55
 go_upto_region 1 with fail
 obtain ⟨wT, hT⟩ : ∃ W, W = (w.alloc (.cells #[.int .i64 ax, .int .i64 ay, .int .i64 bx, .int .i64 bY] 91)).alloc (.cells #[.int .i64 g, .int .i64 m] 94) := ⟨_, rfl⟩
 have m1 : wT.cell? ⟨w.heap.size, 0, none⟩ = some (.int .i64 ax) := by rw [hT]; go_simp
 have m2 : wT.cell? ⟨w.heap.size, 1, none⟩ = some (.int .i64 ay) := by rw [hT]; go_simp
 have m3 : wT.cell? ⟨w.heap.size, 2, none⟩ = some (.int .i64 bx) := by rw [hT]; go_simp
 have m4 : wT.cell? ⟨w.heap.size, 3, none⟩ = some (.int .i64 bY) := by rw [hT]; go_simp
 have m5 : wT.cell? ⟨w.heap.size + 1, 0, none⟩ = some (.int .i64 g) := by rw [hT]; go_simp
 have m6 : wT.cell? ⟨w.heap.size + 1, 1, none⟩ = some (.int .i64 m) := by rw [hT]; go_simp
 have HBT := hide (show Below w.heap.size w wT by rw [hT]; exact bwz)
 have zT : w.heap.size + 1 < wT.heap.size := by rw [hT]; simp
 have zT0 : w.heap.size < wT.heap.size := by omega
 have hTs : w.heap.size + 1 + 1 = wT.heap.size := by rw [hT]; simp
 rw [← hT, hTs]
 clear hT hTs
 have f1 := we1.out
 have f2 := we2.out
 have f3 := we3.out
 have f4 := we4.out
 refine wp_region_held_drew (S := fun W => Below wT.heap.size wT W) (by kernel_rfl) (Below.drew (Below.alloc (Below.refl _ _) (Nat.le_refl _) _)) (fun hHeld => ?_)
 refine tkN 0 (some 5) rfl ?_; simp only [pz]
 refine tkN 1 (some 6) rfl ?_; simp only [pz]
 refine tkL 2 (some 7) rfl ?_; simp only [pz]
 refine tkN 3 (some 8) rfl ?_; simp only [pz]
 refine tkN 4 (some 9) rfl ?_; simp only [pz]
 refine tkL 5 (some 10) rfl ?_; simp only [pz]
 refine tkN 6 (some 11) rfl ?_; simp only [pz]
 refine tkN 7 (some 12) rfl ?_; simp only [pz]
 refine tkL 8 (some 13) rfl ?_; simp only [pz]
 refine tkN 9 (some 14) rfl ?_; simp only [pz]
 refine tkL 10 (some 15) rfl ?_; simp only [pz]
 refine tkN 13 (some 18) rfl ?_; simp only [pz]
 refine tkN 14 (some 19) rfl ?_; simp only [pz]
 refine tkL 15 (some 20) rfl ?_; simp only [pz]
 refine tkN 16 (some 21) rfl ?_; simp only [pz]
 refine tkN 17 (some 22) rfl ?_; simp only [pz]
 refine tkL 18 (some 23) rfl ?_; simp only [pz]
 refine tkN 19 (some 24) rfl ?_; simp only [pz]
 refine tkN 20 (some 25) rfl ?_; simp only [pz]
 refine tkL 21 (some 26) rfl ?_; simp only [pz]
 refine tkN 22 (some 27) rfl ?_; simp only [pz]
 refine tkL 23 (some 28) rfl ?_; simp only [pz]
 refine rd1 11 (some 16) rfl (fun K hK => ?_)
 go_simp; (first | (go_at_call 99; (with_reducible refine (KX.out _).mono ?_); rintro e w9 ⟨rfl, hb⟩; have hzz := hb.size; (try simp at hzz); have hn0 : ¬ w9.heap.size = wT.heap.size := (by omega); have hm0 : ¬ wT.heap.size = w9.heap.size := (by omega); have z0 : wT.heap.size < w9.heap.size := (by omega); obtain ⟨hc, hf⟩ := bcell hb) | (go_at_call 99; (with_reducible refine (KY.out _).mono ?_); rintro e w9 ⟨rfl, hb⟩; have hzz := hb.size; (try simp at hzz); have hn0 : ¬ w9.heap.size = wT.heap.size := (by omega); have hm0 : ¬ wT.heap.size = w9.heap.size := (by omega); have z0 : wT.heap.size < w9.heap.size := (by omega); obtain ⟨hc, hf⟩ := bcell hb))
 all_goals (try go_wp2_with fail)
 refine hK.out _ _ ?_ (fun hH2 => ?_)
 ·exact hhz
 clear hK K hHeld; (have hHeld := hH2); clear hH2; (try simp only [pz])
 refine tkN 12 (some 17) rfl ?_; simp only [pz]
 refine rd1 24 (some 29) rfl (fun K hK => ?_)
 go_simp; (first | (go_at_call 99; (with_reducible refine (KX.out _).mono ?_); rintro e w9 ⟨rfl, hb⟩; have hzz := hb.size; (try simp at hzz); have hn0 : ¬ w9.heap.size = wT.heap.size := (by omega); have hm0 : ¬ wT.heap.size = w9.heap.size := (by omega); have z0 : wT.heap.size < w9.heap.size := (by omega); obtain ⟨hc, hf⟩ := bcell hb) | (go_at_call 99; (with_reducible refine (KY.out _).mono ?_); rintro e w9 ⟨rfl, hb⟩; have hzz := hb.size; (try simp at hzz); have hn0 : ¬ w9.heap.size = wT.heap.size := (by omega); have hm0 : ¬ wT.heap.size = w9.heap.size := (by omega); have z0 : wT.heap.size < w9.heap.size := (by omega); obtain ⟨hc, hf⟩ := bcell hb))
 all_goals (try go_wp2_with fail)
 refine hK.out _ _ ?_ (fun hH2 => ?_)
 ·exact hhz
 clear hK K hHeld; (have hHeld := hH2); clear hH2; (try simp only [pz])
 refine tkN 25 (some 30) rfl ?_; simp only [pz]
 refine tkN 26 (some 31) rfl ?_; simp only [pz]
 refine rd1 27 none rfl (fun K hK => ?_)
 go_simp
 all_goals (try go_wp2_with fail)
 refine hK.out _ _ ?_ (fun hH2 => ?_)
 ·exact bwz
 clear hK K hHeld; (have hHeld := hH2); clear hH2; (try simp only [pz])
 refine wpAnyH_done (by kernel_rfl) ?_ _; (try simp only [pz])
 clear f1 f2 f3 f4
 go_wp2
 simp [bodyPost, results, Tryz.results55, go_sem, *]
 all_goals exact HBT.out.trans (hHeld.mono (by omega))
set_option maxRecDepth 100000 in
set_option maxHeartbeats 4000000 in
theorem spec_l02Nearest (ax ay bx bY px py : Int) (g1 : isSg ax ay bx bY = true) (g2 : isPt px py = true) (w : World) :
 Calls Tryz.prog 101 #[.agg #[.int .i64 ax, .int .i64 ay, .int .i64 bx, .int .i64 bY], .agg #[.int .i64 px, .int .i64 py]] w fun e w' => e = .returned (.agg #[.int .i64 (npG ax ay bx bY px py), .int .i64 (npM ax ay bx bY px py)]) ∧ Below w.heap.size w w' := by
 obtain ⟨ha, hb, m1⟩ := isSg_t g1
 obtain ⟨s1, s2⟩ := pt_sm ha
 obtain ⟨s3, s4⟩ := pt_sm hb
 obtain ⟨s5, s6⟩ := pt_sm g2
 have m2 := (sq_pt ha hb).2
 obtain ⟨f0, f1, _, _⟩ := pt_bd3 ha hb g2
 have hm : (bx - ax) * (bx - ax) + (bY - ay) * (bY - ay) = sq ax ay bx bY := by unfold sq; grind
 have hf : (bx - ax) * (px - ax) + (bY - ay) * (py - ay) = farI ax ay bx bY px py := by unfold farI; grind
 have t1 := sm_mul s3 s1 s5 s1
 have t2 := sm_mul s4 s2 s6 s2
 have t3 := sm_mul s3 s1 s3 s1
 have t4 := sm_mul s4 s2 s4 s2
 have KD1 := hide (fun W => hf ▸ spec_l01Dot (bx - ax) (bY - ay) (px - ax) (py - ay) t1 t2 W)
 have KD2 := hide (fun W => hm ▸ spec_l01Dot (bx - ax) (bY - ay) (bx - ax) (bY - ay) t3 t4 W)
 have KM1 := hide (fun W => spec_l01Minus bx bY ax ay s3 s4 s1 s2 W)
 have KM2 := hide (fun W => spec_l01Minus px py ax ay s5 s6 s1 s2 W)
 obtain ⟨b0, b1⟩ := npN_bd (farI ax ay bx bY px py) (show 0 ≤ sq ax ay bx bY by omega)
 have KR := hide (fun W => spec_l02Ratio (npN (farI ax ay bx bY px py) (sq ax ay bx bY)) (sq ax ay bx bY) b0 (by omega) m1 (by omega) W)
 have hn : npN (farI ax ay bx bY px py) (sq ax ay bx bY) = if farI ax ay bx bY px py < 0 then 0 else if sq ax ay bx bY < farI ax ay bx bY px py then sq ax ay bx bY else farI ax ay bx bY px py := rfl
 unfold npG npM
 generalize npN (farI ax ay bx bY px py) (sq ax ay bx bY) = n9 at *
 generalize gdI n9 (sq ax ay bx bY) = g9 at *
 generalize sq ax ay bx bY = m9 at *
 generalize farI ax ay bx bY px py = f9 at *
 clear ha hb g1 g2 s1 s2 s3 s4 s5 s6 hm hf t1 t2 t3 t4
 have hcase : (f9 < 0 ∧ n9 = 0) ∨ (f9 = 0 ∧ n9 = 0) ∨ (0 < f9 ∧ f9 < m9 ∧ n9 = f9) ∨ (0 < f9 ∧ f9 = m9 ∧ n9 = m9) ∨ (0 < f9 ∧ m9 < f9 ∧ n9 = m9) := by
  split at hn
  ·omega
  ·split at hn <;> omega
 clear hn
 have em1 : max 0 (min f9 m9) = n9 := by omega
 have em2 : min m9 (max 0 f9) = n9 := by omega
 have em3 : max 0 n9 = n9 := by omega
 have em4 : min m9 n9 = n9 := by omega
 generalize bx - ax = d1 at *
 generalize bY - ay = d2 at *
 generalize px - ax = d3 at *
 generalize py - ay = d4 at *
 rcases hcase with ⟨k1, rfl⟩ | ⟨rfl, rfl⟩ | ⟨k1, k2, rfl⟩ | ⟨k1, rfl, rfl⟩ | ⟨k1, k2, rfl⟩
 all_goals
  go_enter Tryz.func101, Tryz.ntmps101
  go_wp2_with fail; (with_reducible refine (KM1.out _).mono ?_); rintro e wA ⟨rfl, hb⟩
  have k0 : wA.cell? ⟨w.heap.size, 0, none⟩ = some (.int .i64 ax) := cell_later hb (by go_simp)
  have k3 : wA.cell? ⟨w.heap.size, 1, none⟩ = some (.int .i64 ay) := cell_later hb (by go_simp)
  have k4 : wA.cell? ⟨w.heap.size + 1, 0, none⟩ = some (.int .i64 px) := cell_later hb (by go_simp)
  have k5 : wA.cell? ⟨w.heap.size + 1, 1, none⟩ = some (.int .i64 py) := cell_later hb (by go_simp)
  have k6 : wA.cell? ⟨w.heap.size + 1 + 1, 0, none⟩ = some (.int .i64 0) := cell_later hb (by go_simp)
  have k7 : wA.cell? ⟨w.heap.size + 1 + 1, 1, none⟩ = some (.int .i64 0) := cell_later hb (by go_simp)
  have k8 : wA.frozen? ⟨w.heap.size + 1 + 1, 0, none⟩ = false := frozen_later hb (by go_simp; rfl) (by go_simp)
  have k9 : wA.frozen? ⟨w.heap.size + 1 + 1, 1, none⟩ = false := frozen_later hb (by go_simp; rfl) (by go_simp)
  have HA := hide (show Below w.heap.size w wA from bwz)
  have zA : w.heap.size + 1 + 1 < wA.heap.size := World.block_lt_of_cell? _ _ k6
  clear hb
  go_upto_region 2 with fail
  obtain ⟨wB, hB⟩ : ∃ W, W = wA.alloc (.cells #[.int .i64 d1, .int .i64 d2] 25) := ⟨_, rfl⟩
  have l0 : wB.cell? ⟨w.heap.size, 0, none⟩ = some (.int .i64 ax) := by rw [hB]; exact cell_alloc k0
  have l1 : wB.cell? ⟨w.heap.size, 1, none⟩ = some (.int .i64 ay) := by rw [hB]; exact cell_alloc k3
  have l2 : wB.cell? ⟨w.heap.size + 1, 0, none⟩ = some (.int .i64 px) := by rw [hB]; exact cell_alloc k4
  have l3 : wB.cell? ⟨w.heap.size + 1, 1, none⟩ = some (.int .i64 py) := by rw [hB]; exact cell_alloc k5
  have l4 : wB.cell? ⟨w.heap.size + 1 + 1, 0, none⟩ = some (.int .i64 0) := by rw [hB]; exact cell_alloc k6
  have l5 : wB.cell? ⟨w.heap.size + 1 + 1, 1, none⟩ = some (.int .i64 0) := by rw [hB]; exact cell_alloc k7
  have l6 : wB.frozen? ⟨w.heap.size + 1 + 1, 0, none⟩ = false := by rw [hB]; exact frozen_alloc k6 k8
  have l7 : wB.frozen? ⟨w.heap.size + 1 + 1, 1, none⟩ = false := by rw [hB]; exact frozen_alloc k7 k9
  have l8 : wB.cell? ⟨wA.heap.size, 0, none⟩ = some (.int .i64 d1) := by rw [hB]; go_simp
  have l9 : wB.cell? ⟨wA.heap.size, 1, none⟩ = some (.int .i64 d2) := by rw [hB]; go_simp
  have HBB := hide (show Below w.heap.size w wB by rw [hB]; exact Below.alloc HA.out (by omega) _)
  have zB : wA.heap.size < wB.heap.size := by rw [hB]; simp
  have zB2 : w.heap.size + 1 + 1 < wB.heap.size := by omega
  have zB1 : w.heap.size + 1 < wB.heap.size := by omega
  have zB0 : w.heap.size < wB.heap.size := by omega
  rw [← hB]
  clear hB k0 k3 k4 k5 k6 k7 k8 k9 HA
  refine wp_region_held_drew (S := fun W => Below wB.heap.size wB W) (by kernel_rfl) (Below.drew (Below.refl _ _)) (fun hHeld => ?_)
  refine tkL 0 (some 13) rfl ?_; simp only [pz]
  refine tkL 1 (some 14) rfl ?_; simp only [pz]
  refine tkN 2 (some 15) rfl ?_; simp only [pz]
  refine tkL 3 (some 16) rfl ?_; simp only [pz]
  refine rd1 4 (some 17) rfl (fun K hK => ?_)
  go_simp; (go_at_call 90; (with_reducible refine (KM2.out _).mono ?_); rintro e w9 ⟨rfl, hb⟩; have hzz := hb.size; (try simp at hzz); obtain ⟨hc, hf⟩ := bcell hb)
  all_goals (try go_wp2_with fail)
  refine hK.out _ _ ?_ (fun hH2 => ?_)
  ·exact hhz
  clear hK K hHeld; (have hHeld := hH2); clear hH2; (try simp only [pz])
  refine rd1 5 (some 18) rfl (fun K hK => ?_)
  go_simp; (go_at_call 89; (with_reducible refine (KD1.out _).mono ?_); rintro e w9 ⟨rfl, hb⟩; have hzz := hb.size; (try simp at hzz); obtain ⟨hc, hf⟩ := bcell hb)
  all_goals (try go_wp2_with fail)
  refine hK.out _ _ ?_ (fun hH2 => ?_)
  ·exact hhz
  clear hK K hHeld; (have hHeld := hH2); clear hH2; (try simp only [pz])
  refine tkN 6 (some 6) rfl ?_; simp only [pz]
  refine wpAnyH_done (by kernel_rfl) ?_ _; (try simp only [pz])
  obtain ⟨wC, rfl⟩ : ∃ W : World, W = w9 := ⟨_, rfl⟩
  have j4 := cell_later hHeld l4
  have j5 := cell_later hHeld l5
  have j6 := frozen_later hHeld l4 l6
  have j7 := frozen_later hHeld l5 l7
  have j8 := cell_later hHeld l8
  have j9 := cell_later hHeld l9
  have HBC := hide (bstep HBB.out hHeld)
  have zC := hHeld.size
  have zC0 : wA.heap.size < wC.heap.size := by omega
  have zC2 : w.heap.size + 1 + 1 < wC.heap.size := by omega
  clear hHeld l0 l1 l2 l3 l4 l5 l6 l7 l8 l9 hb hc hf hzz
  go_wp2_with (first | (go_at_call 89; (with_reducible refine (KD2.out _).mono ?_); rintro e wD ⟨rfl, hb⟩; obtain ⟨hc, hf⟩ := bcell hb; have zD := hb.size) | (go_at_call 138; (with_reducible refine (KR.out _).mono ?_); rintro e wE ⟨rfl, hb2⟩; obtain ⟨hc2, hf2⟩ := bcell hb2; have zE := hb2.size; have zE2 : w.heap.size + 1 + 1 < wE.heap.size := (by omega); have zD2 : w.heap.size + 1 + 1 < wD.heap.size := (by omega)))
  have HBE := hide (HBC.out.trans ((hb.mono (show w.heap.size ≤ _ by omega)).trans (hb2.mono (show w.heap.size ≤ _ by omega))))
  simp [bodyPost, results, Tryz.results101, go_sem, *]
 all_goals exact Below.setCell (Below.setCell HBE.out (by dsimp only; omega) _) (by dsimp only; omega) _
end Go.Proofs.YtgcdgdnmcdffoaaGreatDoor
/- Walks: the nearest point of a leg, the reference's. -/
namespace Go.Proofs.YtgcdgdnmcdffoaaGreatDoor
open Go.RowKit

/-- The nearest point of a leg to a point. -/
def nrP (x y : Int) (U V : Nat → Int) (l : Nat) : Int × Int :=
 if (U l == U (l + 1) && V l == V (l + 1)) = true then (U l, V l)
 else (posI (U l) (U (l + 1)) (npG (U l) (V l) (U (l + 1)) (V (l + 1)) x y) (npM (U l) (V l) (U (l + 1)) (V (l + 1)) x y), posI (V l) (V (l + 1)) (npG (U l) (V l) (U (l + 1)) (V (l + 1)) x y) (npM (U l) (V l) (U (l + 1)) (V (l + 1)) x y))
theorem nrP_eq {x y : Int} {U V : Nat → Int} {l : Nat} (h : (U l == U (l + 1) && V l == V (l + 1)) = true) : nrP x y U V l = (U l, V l) := by unfold nrP; rw [if_pos h]
theorem nrP_ne {x y : Int} {U V : Nat → Int} {l : Nat} (h : (U l == U (l + 1) && V l == V (l + 1)) = false) : nrP x y U V l = (posI (U l) (U (l + 1)) (npG (U l) (V l) (U (l + 1)) (V (l + 1)) x y) (npM (U l) (V l) (U (l + 1)) (V (l + 1)) x y), posI (V l) (V (l + 1)) (npG (U l) (V l) (U (l + 1)) (V (l + 1)) x y) (npM (U l) (V l) (U (l + 1)) (V (l + 1)) x y)) := by
 unfold nrP; rw [if_neg (by rw [h]; decide)]
theorem nrP_pt {x y : Int} {n l : Nat} {T U V : Nat → Int} (hv : isTr n T U V = true) (hl : l + 1 < n) : isPt (nrP x y U V l).1 (nrP x y U V l).2 = true := by
 obtain ⟨_, _, _, p0, p1⟩ := isTr_leg hv hl
 rcases b2 (U l == U (l + 1) && V l == V (l + 1)) with h | h
 ·rw [nrP_ne h]
  obtain ⟨f1, f2, f3, f4⟩ := np_facts x y (isSg_of p0 p1 h)
  obtain ⟨x1, x2, x3, x4⟩ := isPt_t p0
  obtain ⟨y1, y2, y3, y4⟩ := isPt_t p1
  have a := posI_bd x1 x2 y1 y2 f1 f2 (by omega)
  have b := posI_bd x3 x4 y3 y4 f1 f2 (by omega)
  unfold isPt inB
  rw [decide_eq_true a, decide_eq_true b]
  rfl
 ·rw [nrP_eq h]; exact p0
set_option maxRecDepth 100000 in
set_option maxHeartbeats 8000000 in
theorem spec_l07Near (x y : Int) (b o n cap l : Nat) (T U V : Nat → Int) (w : World) (h : RowAt w (some ⟨b, o, none⟩) n 3 (v3 T U V)) (hv : isTr n T U V = true) (hl : l + 1 < n) (hp : isPt x y = true) :
 Calls Tryz.prog 56 #[.agg #[.slice (some ⟨b, o, none⟩) n cap], .int .i64 l, .agg #[.int .i64 x, .int .i64 y]] w fun e w' => e = .returned (.agg #[.int .i64 (nrP x y U V l).1, .int .i64 (nrP x y U V l).2]) ∧ Below w.heap.size w w' := by
 obtain ⟨hn2, hn40, _⟩ := isTr_t hv
 obtain ⟨_, _, _, p0, p1⟩ := isTr_leg hv hl
 have hbs := World.block_lt_of_cell? _ _ (h.on3 0 (by omega)).1
 simp only at hbs
 obtain ⟨c0, c1, c2⟩ := h.on3 l (by omega)
 obtain ⟨d0, d1, d2⟩ := h.on3 (l + 1) hl
 have hj1 : (0 : Int) ≤ (l : Int) := by omega
 have hj2 : (l : Int) < (n : Int) := by omega
 have hj3 : (l : Int) + 1 < (n : Int) := by omega
 have hj4 : (0 : Int) ≤ (l : Int) + 1 := by omega
 have we : IntKind.i64.wrap ((l : Int) + 1) = (l : Int) + 1 := IntWalk.i64_in _ (by omega)
 have He := hide (fun (hh : (U l == U (l + 1) && V l == V (l + 1)) = true) => nrP_eq (x := x) (y := y) hh)
 have Hn := hide (fun (hh : (U l == U (l + 1) && V l == V (l + 1)) = false) => nrP_ne (x := x) (y := y) hh)
 have KN := hide (fun (hh : (U l == U (l + 1) && V l == V (l + 1)) = false) W => spec_l02Nearest (U l) (V l) (U (l + 1)) (V (l + 1)) x y (isSg_of p0 p1 hh) hp W)
 have HF := hide (fun (hh : (U l == U (l + 1) && V l == V (l + 1)) = false) => np_facts x y (isSg_of p0 p1 hh))
 obtain ⟨x1, x2, x3, x4⟩ := isPt_t p0
 obtain ⟨y1, y2, y3, y4⟩ := isPt_t p1
 generalize nrP x y U V l = P9 at *
 generalize npG (U l) (V l) (U (l + 1)) (V (l + 1)) x y = g9 at *
 generalize npM (U l) (V l) (U (l + 1)) (V (l + 1)) x y = m9 at *
 clear hp p0 p1 h hv
 obtain ⟨a1, j1⟩ : ∃ a, a = U l := ⟨_, rfl⟩
 obtain ⟨a2, j2⟩ : ∃ a, a = V l := ⟨_, rfl⟩
 obtain ⟨a3, j3⟩ : ∃ a, a = U (l + 1) := ⟨_, rfl⟩
 obtain ⟨a4, j4⟩ : ∃ a, a = V (l + 1) := ⟨_, rfl⟩
 rw [← j1] at c1 He Hn KN HF x1 x2
 rw [← j2] at c2 He Hn KN HF x3 x4
 rw [← j3] at d1 He Hn KN HF y1 y2
 rw [← j4] at d2 He Hn KN HF y3 y4
 clear j1 j2 j3 j4
 have nbb0 : ¬ b = w.heap.size := (by omega); have ncb0 : ¬ w.heap.size = b := (by omega); have ndb0 : b < w.heap.size := (by omega); have nbb1 : ¬ b = w.heap.size + 1 := (by omega); have ncb1 : ¬ w.heap.size + 1 = b := (by omega); have ndb1 : b < w.heap.size + 1 := (by omega); have nbb2 : ¬ b = w.heap.size + 1 + 1 := (by omega); have ncb2 : ¬ w.heap.size + 1 + 1 = b := (by omega); have ndb2 : b < w.heap.size + 1 + 1 := (by omega); have nbb3 : ¬ b = w.heap.size + 1 + 1 + 1 := (by omega); have ncb3 : ¬ w.heap.size + 1 + 1 + 1 = b := (by omega); have ndb3 : b < w.heap.size + 1 + 1 + 1 := (by omega); have nbb4 : ¬ b = w.heap.size + 1 + 1 + 1 + 1 := (by omega); have ncb4 : ¬ w.heap.size + 1 + 1 + 1 + 1 = b := (by omega); have ndb4 : b < w.heap.size + 1 + 1 + 1 + 1 := (by omega)
 go_enter Tryz.func56, Tryz.ntmps56
 go_upto_region 1 with fail
 obtain ⟨w1, hw1⟩ : ∃ W, W = (w.alloc (.cells #[.slice (some ⟨b, o, none⟩) n cap] 33)).alloc (.cells #[.int .i64 x, .int .i64 y] 25) := ⟨_, rfl⟩
 have m1 : w1.cell? ⟨w.heap.size + 1, 0, none⟩ = some (.int .i64 x) := by rw [hw1]; go_simp
 have m2 : w1.cell? ⟨w.heap.size + 1, 1, none⟩ = some (.int .i64 y) := by rw [hw1]; go_simp
 have m5 : w1.cell? ⟨w.heap.size, 0, none⟩ = some (.slice (some ⟨b, o, none⟩) n cap) := by rw [hw1]; go_simp
 have i1 : w1.cell? ⟨b, o + l * 3, none⟩ = some (.int .i64 (T l)) := by rw [hw1]; go_simp
 have i2 : w1.cell? ⟨b, o + l * 3 + 1, none⟩ = some (.int .i64 a1) := by rw [hw1]; go_simp
 have i3 : w1.cell? ⟨b, o + l * 3 + 2, none⟩ = some (.int .i64 a2) := by rw [hw1]; go_simp
 have i4 : w1.cell? ⟨b, o + (l + 1) * 3, none⟩ = some (.int .i64 (T (l + 1))) := by rw [hw1]; go_simp
 have i5 : w1.cell? ⟨b, o + (l + 1) * 3 + 1, none⟩ = some (.int .i64 a3) := by rw [hw1]; go_simp
 have i6 : w1.cell? ⟨b, o + (l + 1) * 3 + 2, none⟩ = some (.int .i64 a4) := by rw [hw1]; go_simp
 have HW1 := hide (show Below w.heap.size w w1 by rw [hw1]; exact bwz)
 have hs1 : w.heap.size + 1 + 1 = w1.heap.size := by rw [hw1]; simp
 rw [← hw1, hs1]
 clear hw1 c0 c1 c2 d0 d1 d2
 have z1 : w.heap.size + 1 < w1.heap.size := by omega
 have z0 : w.heap.size < w1.heap.size := by omega
 have zb : b < w1.heap.size := by omega
 clear hs1
 go_cut [7, 8] (fun s7 s8 W => ∃ g h : Nat, s7 = .pointer (some ⟨g, 0, none⟩) ∧ s8 = .pointer (some ⟨h, 0, none⟩) ∧ W.cell? ⟨g, 0, none⟩ = some (.int .i64 a1) ∧ W.cell? ⟨g, 1, none⟩ = some (.int .i64 a2) ∧ W.cell? ⟨h, 0, none⟩ = some (.int .i64 a3) ∧ W.cell? ⟨h, 1, none⟩ = some (.int .i64 a4) ∧ W.cell? ⟨w1.heap.size, 0, none⟩ = some (.int .i64 0) ∧ W.cell? ⟨w1.heap.size, 1, none⟩ = some (.int .i64 0) ∧ W.frozen? ⟨w1.heap.size, 0, none⟩ = false ∧ W.frozen? ⟨w1.heap.size, 1, none⟩ = false ∧ w1.heap.size < g ∧ w1.heap.size < h ∧ Below w1.heap.size w1 W)
 case first =>
  obtain ⟨wB, hB⟩ : ∃ W, W = w1.alloc (.cells #[.int .i64 0, .int .i64 0] 25) := ⟨_, rfl⟩
  have x1' : wB.cell? ⟨b, o + l * 3, none⟩ = some (.int .i64 (T l)) := by rw [hB]; exact cell_alloc i1
  have x2' : wB.cell? ⟨b, o + l * 3 + 1, none⟩ = some (.int .i64 a1) := by rw [hB]; exact cell_alloc i2
  have x3' : wB.cell? ⟨b, o + l * 3 + 2, none⟩ = some (.int .i64 a2) := by rw [hB]; exact cell_alloc i3
  have x4' : wB.cell? ⟨b, o + (l + 1) * 3, none⟩ = some (.int .i64 (T (l + 1))) := by rw [hB]; exact cell_alloc i4
  have x5' : wB.cell? ⟨b, o + (l + 1) * 3 + 1, none⟩ = some (.int .i64 a3) := by rw [hB]; exact cell_alloc i5
  have x6' : wB.cell? ⟨b, o + (l + 1) * 3 + 2, none⟩ = some (.int .i64 a4) := by rw [hB]; exact cell_alloc i6
  have t5 : wB.cell? ⟨w.heap.size, 0, none⟩ = some (.slice (some ⟨b, o, none⟩) n cap) := by rw [hB]; exact cell_alloc m5
  have t6 : wB.cell? ⟨w1.heap.size, 0, none⟩ = some (.int .i64 0) := by rw [hB]; go_simp
  have t7 : wB.cell? ⟨w1.heap.size, 1, none⟩ = some (.int .i64 0) := by rw [hB]; go_simp
  have t8 : wB.frozen? ⟨w1.heap.size, 0, none⟩ = false := by rw [hB]; go_simp
  have t9 : wB.frozen? ⟨w1.heap.size, 1, none⟩ = false := by rw [hB]; go_simp
  have HBB := hide (show Below w1.heap.size w1 wB by rw [hB]; exact Below.alloc (Below.refl _ _) (Nat.le_refl _) _)
  have zB : w1.heap.size < wB.heap.size := by rw [hB]; simp
  have zB0 : w.heap.size < wB.heap.size := by omega
  have zBb : b < wB.heap.size := by omega
  rw [← hB]
  clear hB i1 i2 i3 i4 i5 i6 m5
  refine wp_region_held_drew (S := fun W => Below wB.heap.size wB W) (by kernel_rfl) (Below.drew (by first | with_reducible exact Below.refl _ _ | with_reducible exact below_drewN (Below.refl _ _) _)) (fun hHeld => ?_)
  refine tkN 0 (some 10) rfl ?_; simp only [pz]
  refine tkL 1 (some 11) rfl ?_; simp only [pz]
  refine tkN 2 (some 12) rfl ?_; simp only [pz]
  refine tkN 3 (some 13) rfl ?_; simp only [pz]
  refine tkL 4 (some 14) rfl ?_; simp only [pz]
  refine tkN 6 (some 16) rfl ?_; simp only [pz]
  refine tkL 7 (some 17) rfl ?_; simp only [pz]
  refine tkN 8 (some 18) rfl ?_; simp only [pz]
  refine tkN 9 (some 19) rfl ?_; simp only [pz]
  refine tkN 10 (some 20) rfl ?_; simp only [pz]
  refine tkL 11 (some 21) rfl ?_; simp only [pz]
  refine wpAnyH_inv2 (fuel := 2) [5, 12, 13, 14] [] [15, 22, 7, 8] (fun uT L W => Below wB.heap.size wB W ∧ (L 5 → (uT 15) = (.agg #[.int .i64 a1, .int .i64 a2])) ∧ (L 12 → (uT 22) = (.agg #[.int .i64 a3, .int .i64 a4])) ∧ (L 13 → FBoxB wB 2 (uT 7) W) ∧ (L 14 → FBoxB wB 2 (uT 8) W) ∧ (L 13 → L 14 → uT 7 ≠ uT 8) ∧ True) (by decide) (by kernel_rfl) (by kernel_rfl) (by intro _ _ _ _ _ h; exact h) (fun uT L W hJ => hJ.1) (fun uT L hL => ⟨hHeld, fun k => absurd k (hL 5 (by decide)), fun k => absurd k (hL 12 (by decide)), fun k => absurd k (hL 13 (by decide)), fun k => absurd k (hL 14 (by decide)), fun k _ => absurd k (hL 13 (by decide)), trivial⟩) ?_ ?_ ?_
  ·refine sc1 15 ?_ ?_
   rotate_left
   refine sc1 22 ?_ ?_
   rotate_left
   refine sc1 7 ?_ ?_
   rotate_left
   refine sc1 8 ?_ ?_
   rotate_left
   exact StepsH.nil
   ·intro uT L W hn hd hJ
    obtain ⟨hk, f15, f22, f7, f8, n7_8, _⟩ := hJ
    intro K hK
    simp only [puts, pz]
    go_simp; (first | (go_at_call 100; (with_reducible refine (spec_l03Point _ _ _ _).mono ?_); rintro e w9 ⟨rfl, hb⟩; have hzz := hb.size; (try simp at hzz); obtain ⟨hc, hf⟩ := bcell hb))
    all_goals (try go_wp2_with fail)
    all_goals
     apply Shut.go4 (W := W) hK
     ·simp only [puts, pz]; rfl
     ·exact bez
     ·intro hb; exact ⟨bstep hk hb, fun _ => upd_same _ _ _, unz f22, unz fun h => FBoxB.later hb (f7 h), unz fun h => FBoxB.later hb (f8 h), fun k k2 => by rw [upd_ne uT _ (by decide), upd_ne uT _ (by decide)]; exact n7_8 (k.resolve_left (by decide)) (k2.resolve_left (by decide)), trivial⟩
   ·intro uT L W hn hd hJ
    obtain ⟨hk, f15, f22, f7, f8, n7_8, _⟩ := hJ
    intro K hK
    simp only [puts, pz]
    go_simp; (first | (go_at_call 100; (with_reducible refine (spec_l03Point _ _ _ _).mono ?_); rintro e w9 ⟨rfl, hb⟩; have hzz := hb.size; (try simp at hzz); obtain ⟨hc, hf⟩ := bcell hb))
    all_goals (try go_wp2_with fail)
    all_goals
     apply Shut.go4 (W := W) hK
     ·simp only [puts, pz]; rfl
     ·exact bez
     ·intro hb; exact ⟨bstep hk hb, unz f15, fun _ => upd_same _ _ _, unz fun h => FBoxB.later hb (f7 h), unz fun h => FBoxB.later hb (f8 h), fun k k2 => by rw [upd_ne uT _ (by decide), upd_ne uT _ (by decide)]; exact n7_8 (k.resolve_left (by decide)) (k2.resolve_left (by decide)), trivial⟩
   ·intro uT L W hn hd hJ
    obtain ⟨hk, f15, f22, f7, f8, n7_8, _⟩ := hJ
    intro K hK
    simp only [puts, pz]
    go_simp
    all_goals (try go_wp2_with fail)
    all_goals
     apply Shut.go4 (W := W) hK
     ·simp only [puts, pz]; rfl
     ·exact bez
     ·intro hb; exact ⟨bstep hk hb, unz f15, unz f22, fun _ => by rw [upd_same]; exact FBoxB.new (Below.size hk) _ _ (by rfl), unz fun h => FBoxB.later hb (f8 h), fun _ k => by rw [upd_same, upd_ne uT _ (by decide)]; exact FBoxB.ne_new (f8 (k.resolve_left (by decide))), trivial⟩
   ·intro uT L W hn hd hJ
    obtain ⟨hk, f15, f22, f7, f8, n7_8, _⟩ := hJ
    intro K hK
    simp only [puts, pz]
    go_simp
    all_goals (try go_wp2_with fail)
    all_goals
     apply Shut.go4 (W := W) hK
     ·simp only [puts, pz]; rfl
     ·exact bez
     ·intro hb; exact ⟨bstep hk hb, unz f15, unz f22, unz fun h => FBoxB.later hb (f7 h), fun _ => by rw [upd_same]; exact FBoxB.new (Below.size hk) _ _ (by rfl), fun k _ => by rw [upd_same, upd_ne uT _ (by decide)]; exact (FBoxB.ne_new (f7 (k.resolve_left (by decide)))).symm, trivial⟩
  ·exact PuresH.nil
  ·intro uT L W hJ hL
   obtain ⟨hk, f15, f22, f7, f8, n7_8, _⟩ := hJ
   obtain e15 := f15 (hL 5 (by kernel_rfl))
   obtain e22 := f22 (hL 12 (by kernel_rfl))
   obtain ⟨b7, e7, bb7, lb7, cb7⟩ := f7 (hL 13 (by kernel_rfl))
   obtain ⟨b8, e8, bb8, lb8, cb8⟩ := f8 (hL 14 (by kernel_rfl))
   have hne := n7_8 (hL 13 (by kernel_rfl)) (hL 14 (by kernel_rfl)); rw [e7, e8] at hne; simp at hne; have hne2 := Ne.symm hne
   clear hHeld; have hcW := (bcell hk).1; have hfW := (bcell hk).2; have lW := Below.size hk; have hHeld := hk
   clear f15
   clear f22
   clear f7
   clear f8
   clear n7_8
   simp only [puts, pz, Array.replicate, e15, e22, e7, e8]
   obtain ⟨⟨y7_0, cy7_0⟩, fy7_0⟩ := cb7 0 (by decide)
   obtain ⟨⟨y7_1, cy7_1⟩, fy7_1⟩ := cb7 1 (by decide)
   obtain ⟨⟨y8_0, cy8_0⟩, fy8_0⟩ := cb8 0 (by decide)
   obtain ⟨⟨y8_1, cy8_1⟩, fy8_1⟩ := cb8 1 (by decide)
   refine rd1 15 none rfl (fun K hK => ?_)
   go_simp
   all_goals (try go_wp2_with fail)
   refine hK.out _ _ ?_ (fun hH2 => ?_)
   ·exact bwz
   clear hK K hHeld; (have hHeld := hH2); clear hH2; (try simp only [Act.put])
   refine rd1 16 none rfl (fun K hK => ?_)
   go_simp
   all_goals (try go_wp2_with fail)
   refine hK.out _ _ ?_ (fun hH2 => ?_)
   ·exact bwz
   clear hK K hHeld; (have hHeld := hH2); clear hH2; (try simp only [Act.put])
   refine wpAnyH_done (by kernel_rfl) ?_ _; (try simp only [pz])
   go_wp2_with fail
   go_meet
   exact ⟨_, _, rfl, rfl, ctz, ctz, ctz, ctz, (by go_simp; done), (by go_simp; done), (by go_simp; done), (by go_simp; done), (by omega), (by omega), HBB.out.trans (hHeld.mono HBB.out.size)⟩
 case rest =>
  obtain ⟨g, h', rfl, rfl, q1, q2, q3, q4, t6, t7, t8, t9, kg1, kh1, rB⟩ := hcut
  have kg := World.block_lt_of_cell? _ _ q1
  have kh := World.block_lt_of_cell? _ _ q3
  simp only at kg kh
  have n1 := cell_later rB m1
  have n2 := cell_later rB m2
  have HB := hide rB
  clear rB we hj1 hj2 hj3 hj4 i1 i2 i3 i4 i5 i6 m1 m2 m5
  have hcmp := cmp_pts
  rcases b2 (a1 == a3 && a2 == a4) with h1 | h1
  ·have KN2 := hide (KN.out h1)
   obtain ⟨F1, F2, F3, F4⟩ := HF.out h1
   have h9 := Hn.out h1
   clear KN HF He Hn
   subst h9
   have KX := hide (fun W => spec_l02At_wide a1 a3 g9 m9 x1 x2 y1 y2 F1 F2 F3 (by omega) W)
   have KY := hide (fun W => spec_l02At_wide a2 a4 g9 m9 x3 x4 y3 y4 F1 F2 F3 (by omega) W)
   have zc1 : w.heap.size + 1 < wc.heap.size := by omega
   go_upto_region 5 with (go_at_call 101; (with_reducible refine (KN2.out _).mono ?_); rintro e wN ⟨rfl, hb⟩; have hz := hb.size; have u1 := cell_later hb q1; have u2 := cell_later hb q2; have u3 := cell_later hb q3; have u4 := cell_later hb q4; have u6 := cell_later hb t6; have u7 := cell_later hb t7; have u8 := frozen_later hb t6 t8; have u9 := frozen_later hb t7 t9; have HN := hide (HB.out.trans (hb.mono (by omega))); clear q1 q2 q3 q4 t6 t7 t8 t9 hb)
   obtain ⟨wE, hE⟩ : ∃ W, W = wN.alloc (.cells #[.int .i64 g9, .int .i64 m9] 94) := ⟨_, rfl⟩
   have q1 : wE.cell? ⟨g, 0, none⟩ = some (.int .i64 a1) := by rw [hE]; exact cell_alloc u1
   have q2 : wE.cell? ⟨g, 1, none⟩ = some (.int .i64 a2) := by rw [hE]; exact cell_alloc u2
   have q3 : wE.cell? ⟨h', 0, none⟩ = some (.int .i64 a3) := by rw [hE]; exact cell_alloc u3
   have q4 : wE.cell? ⟨h', 1, none⟩ = some (.int .i64 a4) := by rw [hE]; exact cell_alloc u4
   have t6 : wE.cell? ⟨w1.heap.size, 0, none⟩ = some (.int .i64 0) := by rw [hE]; exact cell_alloc u6
   have t7 : wE.cell? ⟨w1.heap.size, 1, none⟩ = some (.int .i64 0) := by rw [hE]; exact cell_alloc u7
   have t8 : wE.frozen? ⟨w1.heap.size, 0, none⟩ = false := by rw [hE]; exact frozen_alloc u6 u8
   have t9 : wE.frozen? ⟨w1.heap.size, 1, none⟩ = false := by rw [hE]; exact frozen_alloc u7 u9
   have v1' : wE.cell? ⟨wN.heap.size, 0, none⟩ = some (.int .i64 g9) := by rw [hE]; go_simp
   have v2' : wE.cell? ⟨wN.heap.size, 1, none⟩ = some (.int .i64 m9) := by rw [hE]; go_simp
   have HE := hide (show Below w1.heap.size w1 wE by rw [hE]; exact Below.alloc HN.out (by omega) _)
   have zE : wN.heap.size < wE.heap.size := by rw [hE]; simp
   have zE1 : w1.heap.size < wE.heap.size := by omega
   have ne1 : ¬ g = w1.heap.size := by omega
   have ne2 : ¬ h' = w1.heap.size := by omega
   have ne3 : ¬ wN.heap.size = w1.heap.size := by omega
   have HE2 := HE.out
   rw [← hE]
   clear hE u1 u2 u3 u4 u6 u7 u8 u9 HN
   have f3 := IntWalk.i64_in
   clear f3
   refine wp_region_held_drew (S := (fun W => W.cell? ⟨g, 0, none⟩ = some (.int .i64 a1) ∧ W.cell? ⟨g, 1, none⟩ = some (.int .i64 a2) ∧ W.cell? ⟨h', 0, none⟩ = some (.int .i64 a3) ∧ W.cell? ⟨h', 1, none⟩ = some (.int .i64 a4) ∧ W.cell? ⟨wN.heap.size, 0, none⟩ = some (.int .i64 g9) ∧ W.cell? ⟨wN.heap.size, 1, none⟩ = some (.int .i64 m9) ∧ Below w1.heap.size w1 W ∧ w1.heap.size + 1 ≤ W.heap.size)) (by kernel_rfl) ?_ (fun hHeld => ?_)
   ·exact ⟨(by go_simp; done), (by go_simp; done), (by go_simp; done), (by go_simp; done), (by go_simp; done), (by go_simp; done), bwz, (by first | (simp; done) | (simp; omega) | omega)⟩
   refine tkD 0 (some 32) rfl ?_; simp only [pz]
   refine tkD 1 (some 33) rfl ?_; simp only [pz]
   refine tkD 2 (some 34) rfl ?_; simp only [pz]
   refine tkD 3 (some 35) rfl ?_; simp only [pz]
   refine tkD 4 (some 36) rfl ?_; simp only [pz]
   refine tkD 6 (some 38) rfl ?_; simp only [pz]
   refine tkD 7 (some 39) rfl ?_; simp only [pz]
   refine tkD 8 (some 40) rfl ?_; simp only [pz]
   refine tkD 9 (some 41) rfl ?_; simp only [pz]
   refine tkD 10 (some 42) rfl ?_; simp only [pz]
   refine rd1 5 (some 37) rfl (fun K hK => ?_)
   go_simp; (first | (go_at_call 92; (with_reducible refine (KX.out _).mono ?_); rintro e w9 ⟨rfl, hb⟩; have hzz := hb.size; (try simp at hzz); have hn0 : ¬ w9.heap.size = w1.heap.size := (by omega); have hm0 : ¬ w1.heap.size = w9.heap.size := (by omega); have z0 : w1.heap.size < w9.heap.size := (by omega); have tc0 : w9.cell? ⟨w1.heap.size, 0, none⟩ = some (.int .i64 0) := (cell_later hb (by first | assumption | simpa using t6)); have tc1 : w9.cell? ⟨w1.heap.size, 1, none⟩ = some (.int .i64 0) := (cell_later hb (by first | assumption | simpa using t7)); have tf0 : w9.frozen? ⟨w1.heap.size, 0, none⟩ = false := (frozen_later (v := .int .i64 0) hb (by first | assumption | simpa using t6) (by first | assumption | simpa using t8)); have tf1 : w9.frozen? ⟨w1.heap.size, 1, none⟩ = false := (frozen_later (v := .int .i64 0) hb (by first | assumption | simpa using t7) (by first | assumption | simpa using t9))) | (go_at_call 92; (with_reducible refine (KY.out _).mono ?_); rintro e w9 ⟨rfl, hb⟩; have hzz := hb.size; (try simp at hzz); have hn0 : ¬ w9.heap.size = w1.heap.size := (by omega); have hm0 : ¬ w1.heap.size = w9.heap.size := (by omega); have z0 : w1.heap.size < w9.heap.size := (by omega); have tc0 : w9.cell? ⟨w1.heap.size, 0, none⟩ = some (.int .i64 0) := (cell_later hb (by first | assumption | simpa using t6)); have tc1 : w9.cell? ⟨w1.heap.size, 1, none⟩ = some (.int .i64 0) := (cell_later hb (by first | assumption | simpa using t7)); have tf0 : w9.frozen? ⟨w1.heap.size, 0, none⟩ = false := (frozen_later (v := .int .i64 0) hb (by first | assumption | simpa using t6) (by first | assumption | simpa using t8)); have tf1 : w9.frozen? ⟨w1.heap.size, 1, none⟩ = false := (frozen_later (v := .int .i64 0) hb (by first | assumption | simpa using t7) (by first | assumption | simpa using t9))))
   all_goals (try go_wp2_with fail)
   refine hK.out _ _ ?_ (fun hH2 => ?_)
   ·(try dsimp only); first | (obtain ⟨k1, k2, k3, k4, k5, k6, kB, kz⟩ := hHeld; exact ⟨cell_later hb k1, cell_later hb k2, cell_later hb k3, cell_later hb k4, cell_later hb k5, cell_later hb k6, bstep kB hb, bsize kz hb⟩) | (obtain ⟨k1, k2, k3, k4, k5, k6, kB, kz⟩ := hHeld; exact ⟨k1, k2, k3, k4, k5, k6, kB, kz⟩)
   clear hK K hHeld; (have hHeld := hH2); clear hH2; (try simp only [pz])
   refine rd1 11 (some 43) rfl (fun K hK => ?_)
   go_simp; (first | (go_at_call 92; (with_reducible refine (KX.out _).mono ?_); rintro e w9 ⟨rfl, hb⟩; have hzz := hb.size; (try simp at hzz); have hn0 : ¬ w9.heap.size = w1.heap.size := (by omega); have hm0 : ¬ w1.heap.size = w9.heap.size := (by omega); have z0 : w1.heap.size < w9.heap.size := (by omega); have tc0 : w9.cell? ⟨w1.heap.size, 0, none⟩ = some (.int .i64 0) := (cell_later hb (by first | assumption | simpa using t6)); have tc1 : w9.cell? ⟨w1.heap.size, 1, none⟩ = some (.int .i64 0) := (cell_later hb (by first | assumption | simpa using t7)); have tf0 : w9.frozen? ⟨w1.heap.size, 0, none⟩ = false := (frozen_later (v := .int .i64 0) hb (by first | assumption | simpa using t6) (by first | assumption | simpa using t8)); have tf1 : w9.frozen? ⟨w1.heap.size, 1, none⟩ = false := (frozen_later (v := .int .i64 0) hb (by first | assumption | simpa using t7) (by first | assumption | simpa using t9))) | (go_at_call 92; (with_reducible refine (KY.out _).mono ?_); rintro e w9 ⟨rfl, hb⟩; have hzz := hb.size; (try simp at hzz); have hn0 : ¬ w9.heap.size = w1.heap.size := (by omega); have hm0 : ¬ w1.heap.size = w9.heap.size := (by omega); have z0 : w1.heap.size < w9.heap.size := (by omega); have tc0 : w9.cell? ⟨w1.heap.size, 0, none⟩ = some (.int .i64 0) := (cell_later hb (by first | assumption | simpa using t6)); have tc1 : w9.cell? ⟨w1.heap.size, 1, none⟩ = some (.int .i64 0) := (cell_later hb (by first | assumption | simpa using t7)); have tf0 : w9.frozen? ⟨w1.heap.size, 0, none⟩ = false := (frozen_later (v := .int .i64 0) hb (by first | assumption | simpa using t6) (by first | assumption | simpa using t8)); have tf1 : w9.frozen? ⟨w1.heap.size, 1, none⟩ = false := (frozen_later (v := .int .i64 0) hb (by first | assumption | simpa using t7) (by first | assumption | simpa using t9))))
   all_goals (try go_wp2_with fail)
   refine hK.out _ _ ?_ (fun hH2 => ?_)
   ·(try dsimp only); first | (obtain ⟨k1, k2, k3, k4, k5, k6, kB, kz⟩ := hHeld; exact ⟨cell_later hb k1, cell_later hb k2, cell_later hb k3, cell_later hb k4, cell_later hb k5, cell_later hb k6, bstep kB hb, bsize kz hb⟩) | (obtain ⟨k1, k2, k3, k4, k5, k6, kB, kz⟩ := hHeld; exact ⟨k1, k2, k3, k4, k5, k6, kB, kz⟩)
   clear hK K hHeld; (have hHeld := hH2); clear hH2; (try simp only [pz])
   refine tkD 12 (some 44) rfl ?_; simp only [pz]
   refine rd1 13 none rfl (fun K hK => ?_)
   go_simp
   all_goals (try go_wp2_with fail)
   refine hK.out _ _ ?_ (fun hH2 => ?_)
   ·(try dsimp only); first | (obtain ⟨k1, k2, k3, k4, k5, k6, kB, kz⟩ := hHeld; (have kz2 := kz); (try simp at kz2); exact ⟨crk k1, crk k2, crk k3, crk k4, crk k5, crk k6, (by with_reducible refine below_realloc kB ?_; omega), (by first | (simp; done) | (simp at kz ⊢; omega) | omega)⟩) | (obtain ⟨k1, k2, k3, k4, k5, k6, kB, kz⟩ := hHeld; exact ⟨csk k1, csk k2, csk k3, csk k4, csk k5, csk k6, bwz, (by first | (simp; done) | (simp at kz ⊢; omega) | omega)⟩)
   clear hK K hHeld; (have hHeld := hH2); clear hH2; (try simp only [pz])
   refine wpAnyH_done (by kernel_rfl) ?_ _; (try simp only [pz])
   obtain ⟨k1, k2, k3, k4, k5, k6, kB, kz⟩ := hHeld
   clear HE2
   go_wp2
   simp [bodyPost, results, Tryz.results56, go_sem, *]
   all_goals exact HW1.out.trans (kB.mono (by omega))
  ·have h9 := He.out h1
   clear KN HF He Hn
   subst h9
   have ne1 : ¬ g = w1.heap.size := by omega
   go_wp2
   simp [bodyPost, results, Tryz.results56, go_sem, *]
   all_goals exact HW1.out.trans ((Below.setCell (Below.setCell HB.out (by dsimp only; omega) _) (by dsimp only; omega) _).mono (by omega))
end Go.Proofs.YtgcdgdnmcdffoaaGreatDoor
