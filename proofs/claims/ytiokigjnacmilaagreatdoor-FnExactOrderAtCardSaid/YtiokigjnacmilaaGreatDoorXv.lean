/- Walks: the way across a line (the reference), the place of a crossing, a quotient in steps of 1000; of both. -/
import Derived.Test.YtiokigjnacmilaaGreatDoorXw
namespace Go.Proofs.YtiokigjnacmilaaGreatDoor
open Go.RowKit

set_option maxRecDepth 100000 in
set_option maxHeartbeats 8000000 in
theorem spec_l05Way (ax ay bx bY px py qx qy : Int) (h1 : Sm ax) (h2 : Sm ay) (h3 : Sm bx) (h4 : Sm bY) (h5 : Sm px) (h6 : Sm py) (h7 : Sm qx) (h8 : Sm qy) (w : World) :
    Calls Tryz.prog 86 #[.agg #[.int .i64 ax, .int .i64 ay, .int .i64 bx, .int .i64 bY], .agg #[.int .i64 px, .int .i64 py], .agg #[.int .i64 qx, .int .i64 qy]] w fun e w' => e = .returned (.int .i64 (wayI ax ay bx bY px py qx qy)) ∧ Below w.heap.size w w' := by
  obtain ⟨r1, r2⟩ := sgn_m (crs px py qx qy ax ay) (crs px py qx qy bx bY)
  rw [wayI_s]
  have K1 := fun W => spec_l05Before ax ay bx bY px py _ rfl h1 h2 h3 h4 h5 h6 W
  have K2 := fun W => spec_l05Before ax ay bx bY qx qy _ rfl h1 h2 h3 h4 h7 h8 W
  have K3 := fun W => spec_l01Turn px py qx qy ax ay h5 h6 h7 h8 h1 h2 W
  have K4 := fun W => spec_l01Turn px py qx qy bx bY h5 h6 h7 h8 h3 h4 W
  generalize sgn (crs ax ay bx bY px py) = s1 at *
  generalize sgn (crs ax ay bx bY qx qy) = s2 at *
  generalize sgn (crs px py qx qy ax ay) = u1 at *
  generalize sgn (crs px py qx qy bx bY) = u2 at *
  have we : IntKind.i64.wrap (u1 * u2) = u1 * u2 := IntWalk.i64_in _ (by omega)
  obtain ⟨r9, hr9⟩ : ∃ r : Int, r = (if (decide (0 < s1) == decide (0 < s2)) || decide (0 < u1 * u2) then 0 else if 0 < s2 then 1 else -1) := ⟨_, rfl⟩
  rw [← hr9]
  have Hr9 := hide hr9
  clear h1 h2 h3 h4 h5 h6 h7 h8 hr9
  rcases (Classical.em (0 < s1)) with p1 | p1
  · rcases (Classical.em (0 < s2)) with p2 | p2
    · have d1 := hide (show decide (0 < s1) = true from decide_eq_true p1)
      have d2 := hide (show decide (0 < s2) = true from decide_eq_true p2)
      rw [d1.out] at K1
      rw [d2.out] at K2
      simp only [Bool.not_true, Bool.not_false] at K1 K2
      have K1 := hide K1
      have K2 := hide K2
      have K3 := hide K3
      have K4 := hide K4
      go_enter Tryz.func86, Tryz.ntmps86
      go_upto_region 1 with fail
      go_cut [27] (fun s7 W => s7 = .bool true ∧ W.cell? ⟨w.heap.size, 0, none⟩ = some (.int .i64 ax) ∧ W.cell? ⟨w.heap.size, 1, none⟩ = some (.int .i64 ay) ∧ W.cell? ⟨w.heap.size, 2, none⟩ = some (.int .i64 bx) ∧ W.cell? ⟨w.heap.size, 3, none⟩ = some (.int .i64 bY) ∧ W.cell? ⟨w.heap.size + 1, 0, none⟩ = some (.int .i64 px) ∧ W.cell? ⟨w.heap.size + 1, 1, none⟩ = some (.int .i64 py) ∧ W.cell? ⟨w.heap.size + 2, 0, none⟩ = some (.int .i64 qx) ∧ W.cell? ⟨w.heap.size + 2, 1, none⟩ = some (.int .i64 qy) ∧ Below w.heap.size w W ∧ w.heap.size + 3 ≤ W.heap.size)
      case first =>
        obtain ⟨wT, hT⟩ : ∃ W, W = (((w.alloc (.cells #[.int .i64 ax, .int .i64 ay, .int .i64 bx, .int .i64 bY] 37)).alloc (.cells #[.int .i64 px, .int .i64 py] 35)).alloc (.cells #[.int .i64 qx, .int .i64 qy] 35)) := ⟨_, rfl⟩
        have m0 : wT.cell? ⟨w.heap.size, 0, none⟩ = some (.int .i64 ax) := by rw [hT]; go_simp
        have m1 : wT.cell? ⟨w.heap.size, 1, none⟩ = some (.int .i64 ay) := by rw [hT]; go_simp
        have m2 : wT.cell? ⟨w.heap.size, 2, none⟩ = some (.int .i64 bx) := by rw [hT]; go_simp
        have m3 : wT.cell? ⟨w.heap.size, 3, none⟩ = some (.int .i64 bY) := by rw [hT]; go_simp
        have m4 : wT.cell? ⟨w.heap.size + 1, 0, none⟩ = some (.int .i64 px) := by rw [hT]; go_simp
        have m5 : wT.cell? ⟨w.heap.size + 1, 1, none⟩ = some (.int .i64 py) := by rw [hT]; go_simp
        have m6 : wT.cell? ⟨w.heap.size + 1 + 1, 0, none⟩ = some (.int .i64 qx) := by rw [hT]; go_simp
        have m7 : wT.cell? ⟨w.heap.size + 1 + 1, 1, none⟩ = some (.int .i64 qy) := by rw [hT]; go_simp
        have HBT := hide (show Below w.heap.size w wT by rw [hT]; exact bwz)
        have zT2 : w.heap.size + 1 + 1 < wT.heap.size := by rw [hT]; simp
        have zT1 : w.heap.size + 1 < wT.heap.size := by omega
        have zT0 : w.heap.size < wT.heap.size := by omega
        rw [← hT]
        clear hT
        refine wp_region_held_drew (S := fun W => Below wT.heap.size wT W) (by kernel_rfl) (Below.drew (Below.refl _ _)) (fun hHeld => ?_)
        refine tkL 0 (some 7) rfl ?_; (try simp only [pz])
        refine tkL 1 (some 8) rfl ?_; (try simp only [pz])
        refine tkL 3 (some 10) rfl ?_; (try simp only [pz])
        refine tkL 4 (some 11) rfl ?_; (try simp only [pz])
        refine wpAnyH_ready (rs := [2]) (by kernel_rfl) (by simp) ?_; refine (AllReadyH.cons (o := ⟨some 9, _, _, _, _, _⟩) rfl (fun K hK => ?_) AllReadyH.nil)
        go_simp; (first | (go_at_call 100; (with_reducible refine (K1.out _).mono ?_); rintro e w9 ⟨rfl, hb⟩) | (go_at_call 100; (with_reducible refine (K2.out _).mono ?_); rintro e w9 ⟨rfl, hb⟩))
        all_goals (try go_wp2_with fail)
        refine hK.out _ _ ?_ (fun hH2 => ?_)
        · first | exact bstep hHeld hb | exact hHeld.trans hb | exact hHeld
        clear hK K hHeld; (have hHeld := hH2); clear hH2; (try simp only [pz])
        refine wpAnyH_ready (rs := [5]) (by kernel_rfl) (by simp) ?_; refine (AllReadyH.cons (o := ⟨some 12, _, _, _, _, _⟩) rfl (fun K hK => ?_) AllReadyH.nil)
        go_simp; (first | (go_at_call 100; (with_reducible refine (K1.out _).mono ?_); rintro e w9 ⟨rfl, hb⟩) | (go_at_call 100; (with_reducible refine (K2.out _).mono ?_); rintro e w9 ⟨rfl, hb⟩))
        all_goals (try go_wp2_with fail)
        refine hK.out _ _ ?_ (fun hH2 => ?_)
        · first | exact bstep hHeld hb | exact hHeld.trans hb | exact hHeld
        clear hK K hHeld; (have hHeld := hH2); clear hH2; (try simp only [pz])
        refine tkN 6 (some 13) rfl ?_; (try simp only [pz])
        refine tkN 7 (some 14) rfl ?_; (try simp only [pz])
        refine tkO 8 (some 15) rfl ?_; (try simp only [pz])
        refine tkO 9 (some 16) rfl ?_; (try simp only [pz])
        refine tkO 10 (some 17) rfl ?_; (try simp only [pz])
        refine tkO 11 (some 18) rfl ?_; (try simp only [pz])
        refine tkO 12 (some 19) rfl ?_; (try simp only [pz])
        refine tkO 13 (some 20) rfl ?_; (try simp only [pz])
        refine tkO 14 (some 21) rfl ?_; (try simp only [pz])
        refine tkO 15 (some 22) rfl ?_; (try simp only [pz])
        refine tkO 16 (some 23) rfl ?_; (try simp only [pz])
        refine tkO 17 (some 24) rfl ?_; (try simp only [pz])
        refine tkO 18 (some 25) rfl ?_; (try simp only [pz])
        refine tkO 19 (some 26) rfl ?_; (try simp only [pz])
        refine tkN 20 (some 27) rfl ?_; (try simp only [pz])
        refine wpAnyH_done (by kernel_rfl) ?_ _; (try simp only [pz])
        go_wp2_with fail
        go_meet
        exact ⟨by first | rfl | (simp [*]; done), cell_later hHeld m0, cell_later hHeld m1, cell_later hHeld m2, cell_later hHeld m3, cell_later hHeld m4, cell_later hHeld m5, cell_later hHeld m6, cell_later hHeld m7, bstep HBT.out hHeld, (by have := hHeld.size; omega)⟩
      case rest =>
        obtain ⟨rfl, m0, m1, m2, m3, m4, m5, m6, m7, kB, kz⟩ := hcut
        have zT2 : w.heap.size + 1 + 1 < wc.heap.size := by omega
        have zT1 : w.heap.size + 1 < wc.heap.size := by omega
        have zT0 : w.heap.size < wc.heap.size := by omega
        go_wp2
        go_ret
        exact ⟨by rw [Hr9.out, d1.out, d2.out]; rfl, bwz⟩
    · have d1 := hide (show decide (0 < s1) = true from decide_eq_true p1)
      have d2 := hide (show decide (0 < s2) = false from decide_eq_false p2)
      rw [d1.out] at K1
      rw [d2.out] at K2
      simp only [Bool.not_true, Bool.not_false] at K1 K2
      have K1 := hide K1
      have K2 := hide K2
      have K3 := hide K3
      have K4 := hide K4
      rcases (Classical.em (0 < u1 * u2)) with p3 | p3
      · have d3 := hide (show decide (0 < u1 * u2) = true from decide_eq_true p3)
        go_enter Tryz.func86, Tryz.ntmps86
        go_upto_region 1 with fail
        go_cut [27] (fun s7 W => s7 = .bool true ∧ W.cell? ⟨w.heap.size, 0, none⟩ = some (.int .i64 ax) ∧ W.cell? ⟨w.heap.size, 1, none⟩ = some (.int .i64 ay) ∧ W.cell? ⟨w.heap.size, 2, none⟩ = some (.int .i64 bx) ∧ W.cell? ⟨w.heap.size, 3, none⟩ = some (.int .i64 bY) ∧ W.cell? ⟨w.heap.size + 1, 0, none⟩ = some (.int .i64 px) ∧ W.cell? ⟨w.heap.size + 1, 1, none⟩ = some (.int .i64 py) ∧ W.cell? ⟨w.heap.size + 2, 0, none⟩ = some (.int .i64 qx) ∧ W.cell? ⟨w.heap.size + 2, 1, none⟩ = some (.int .i64 qy) ∧ Below w.heap.size w W ∧ w.heap.size + 3 ≤ W.heap.size)
        case first =>
          obtain ⟨wT, hT⟩ : ∃ W, W = (((w.alloc (.cells #[.int .i64 ax, .int .i64 ay, .int .i64 bx, .int .i64 bY] 37)).alloc (.cells #[.int .i64 px, .int .i64 py] 35)).alloc (.cells #[.int .i64 qx, .int .i64 qy] 35)) := ⟨_, rfl⟩
          have m0 : wT.cell? ⟨w.heap.size, 0, none⟩ = some (.int .i64 ax) := by rw [hT]; go_simp
          have m1 : wT.cell? ⟨w.heap.size, 1, none⟩ = some (.int .i64 ay) := by rw [hT]; go_simp
          have m2 : wT.cell? ⟨w.heap.size, 2, none⟩ = some (.int .i64 bx) := by rw [hT]; go_simp
          have m3 : wT.cell? ⟨w.heap.size, 3, none⟩ = some (.int .i64 bY) := by rw [hT]; go_simp
          have m4 : wT.cell? ⟨w.heap.size + 1, 0, none⟩ = some (.int .i64 px) := by rw [hT]; go_simp
          have m5 : wT.cell? ⟨w.heap.size + 1, 1, none⟩ = some (.int .i64 py) := by rw [hT]; go_simp
          have m6 : wT.cell? ⟨w.heap.size + 1 + 1, 0, none⟩ = some (.int .i64 qx) := by rw [hT]; go_simp
          have m7 : wT.cell? ⟨w.heap.size + 1 + 1, 1, none⟩ = some (.int .i64 qy) := by rw [hT]; go_simp
          have HBT := hide (show Below w.heap.size w wT by rw [hT]; exact bwz)
          have zT2 : w.heap.size + 1 + 1 < wT.heap.size := by rw [hT]; simp
          have zT1 : w.heap.size + 1 < wT.heap.size := by omega
          have zT0 : w.heap.size < wT.heap.size := by omega
          rw [← hT]
          clear hT
          refine wp_region_held_drew (S := fun W => Below wT.heap.size wT W) (by kernel_rfl) (Below.drew (Below.refl _ _)) (fun hHeld => ?_)
          refine tkL 0 (some 7) rfl ?_; (try simp only [pz])
          refine tkL 1 (some 8) rfl ?_; (try simp only [pz])
          refine tkL 3 (some 10) rfl ?_; (try simp only [pz])
          refine tkL 4 (some 11) rfl ?_; (try simp only [pz])
          refine wpAnyH_ready (rs := [2]) (by kernel_rfl) (by simp) ?_; refine (AllReadyH.cons (o := ⟨some 9, _, _, _, _, _⟩) rfl (fun K hK => ?_) AllReadyH.nil)
          go_simp; (first | (go_at_call 100; (with_reducible refine (K1.out _).mono ?_); rintro e w9 ⟨rfl, hb⟩) | (go_at_call 100; (with_reducible refine (K2.out _).mono ?_); rintro e w9 ⟨rfl, hb⟩) | (go_at_call 101; (with_reducible refine (K3.out _).mono ?_); rintro e w9 ⟨rfl, hb⟩) | (go_at_call 101; (with_reducible refine (K4.out _).mono ?_); rintro e w9 ⟨rfl, hb⟩))
          all_goals (try go_wp2_with fail)
          refine hK.out _ _ ?_ (fun hH2 => ?_)
          · first | exact bstep hHeld hb | exact hHeld.trans hb | exact hHeld
          clear hK K hHeld; (have hHeld := hH2); clear hH2; (try simp only [pz])
          refine wpAnyH_ready (rs := [5]) (by kernel_rfl) (by simp) ?_; refine (AllReadyH.cons (o := ⟨some 12, _, _, _, _, _⟩) rfl (fun K hK => ?_) AllReadyH.nil)
          go_simp; (first | (go_at_call 100; (with_reducible refine (K1.out _).mono ?_); rintro e w9 ⟨rfl, hb⟩) | (go_at_call 100; (with_reducible refine (K2.out _).mono ?_); rintro e w9 ⟨rfl, hb⟩) | (go_at_call 101; (with_reducible refine (K3.out _).mono ?_); rintro e w9 ⟨rfl, hb⟩) | (go_at_call 101; (with_reducible refine (K4.out _).mono ?_); rintro e w9 ⟨rfl, hb⟩))
          all_goals (try go_wp2_with fail)
          refine hK.out _ _ ?_ (fun hH2 => ?_)
          · first | exact bstep hHeld hb | exact hHeld.trans hb | exact hHeld
          clear hK K hHeld; (have hHeld := hH2); clear hH2; (try simp only [pz])
          refine tkN 6 (some 13) rfl ?_; (try simp only [pz])
          refine tkN 7 (some 14) rfl ?_; (try simp only [pz])
          refine tkL 8 (some 15) rfl ?_; (try simp only [pz])
          refine tkL 9 (some 16) rfl ?_; (try simp only [pz])
          refine tkN 10 (some 17) rfl ?_; (try simp only [pz])
          refine tkL 11 (some 18) rfl ?_; (try simp only [pz])
          refine tkL 13 (some 20) rfl ?_; (try simp only [pz])
          refine tkL 14 (some 21) rfl ?_; (try simp only [pz])
          refine tkN 15 (some 22) rfl ?_; (try simp only [pz])
          refine tkL 16 (some 23) rfl ?_; (try simp only [pz])
          refine wpAnyH_ready (rs := [12]) (by kernel_rfl) (by simp) ?_; refine (AllReadyH.cons (o := ⟨some 19, _, _, _, _, _⟩) rfl (fun K hK => ?_) AllReadyH.nil)
          go_simp; (first | (go_at_call 100; (with_reducible refine (K1.out _).mono ?_); rintro e w9 ⟨rfl, hb⟩) | (go_at_call 100; (with_reducible refine (K2.out _).mono ?_); rintro e w9 ⟨rfl, hb⟩) | (go_at_call 101; (with_reducible refine (K3.out _).mono ?_); rintro e w9 ⟨rfl, hb⟩) | (go_at_call 101; (with_reducible refine (K4.out _).mono ?_); rintro e w9 ⟨rfl, hb⟩))
          all_goals (try go_wp2_with fail)
          refine hK.out _ _ ?_ (fun hH2 => ?_)
          · first | exact bstep hHeld hb | exact hHeld.trans hb | exact hHeld
          clear hK K hHeld; (have hHeld := hH2); clear hH2; (try simp only [pz])
          refine wpAnyH_ready (rs := [17]) (by kernel_rfl) (by simp) ?_; refine (AllReadyH.cons (o := ⟨some 24, _, _, _, _, _⟩) rfl (fun K hK => ?_) AllReadyH.nil)
          go_simp; (first | (go_at_call 100; (with_reducible refine (K1.out _).mono ?_); rintro e w9 ⟨rfl, hb⟩) | (go_at_call 100; (with_reducible refine (K2.out _).mono ?_); rintro e w9 ⟨rfl, hb⟩) | (go_at_call 101; (with_reducible refine (K3.out _).mono ?_); rintro e w9 ⟨rfl, hb⟩) | (go_at_call 101; (with_reducible refine (K4.out _).mono ?_); rintro e w9 ⟨rfl, hb⟩))
          all_goals (try go_wp2_with fail)
          refine hK.out _ _ ?_ (fun hH2 => ?_)
          · first | exact bstep hHeld hb | exact hHeld.trans hb | exact hHeld
          clear hK K hHeld; (have hHeld := hH2); clear hH2; (try simp only [pz])
          refine tkN 18 (some 25) rfl ?_; (try simp only [pz])
          refine tkN 19 (some 26) rfl ?_; (try simp only [pz])
          refine tkN 20 (some 27) rfl ?_; (try simp only [pz])
          refine wpAnyH_done (by kernel_rfl) ?_ _; (try simp only [pz])
          go_wp2_with fail
          go_meet
          exact ⟨by first | rfl | (simp [*]; done), cell_later hHeld m0, cell_later hHeld m1, cell_later hHeld m2, cell_later hHeld m3, cell_later hHeld m4, cell_later hHeld m5, cell_later hHeld m6, cell_later hHeld m7, bstep HBT.out hHeld, (by have := hHeld.size; omega)⟩
        case rest =>
          obtain ⟨rfl, m0, m1, m2, m3, m4, m5, m6, m7, kB, kz⟩ := hcut
          have zT2 : w.heap.size + 1 + 1 < wc.heap.size := by omega
          have zT1 : w.heap.size + 1 < wc.heap.size := by omega
          have zT0 : w.heap.size < wc.heap.size := by omega
          go_wp2
          go_ret
          exact ⟨by rw [Hr9.out, d1.out, d2.out, d3.out]; rfl, bwz⟩
      · have d3 := hide (show decide (0 < u1 * u2) = false from decide_eq_false p3)
        go_enter Tryz.func86, Tryz.ntmps86
        go_upto_region 1 with fail
        go_cut [27] (fun s7 W => s7 = .bool false ∧ W.cell? ⟨w.heap.size, 0, none⟩ = some (.int .i64 ax) ∧ W.cell? ⟨w.heap.size, 1, none⟩ = some (.int .i64 ay) ∧ W.cell? ⟨w.heap.size, 2, none⟩ = some (.int .i64 bx) ∧ W.cell? ⟨w.heap.size, 3, none⟩ = some (.int .i64 bY) ∧ W.cell? ⟨w.heap.size + 1, 0, none⟩ = some (.int .i64 px) ∧ W.cell? ⟨w.heap.size + 1, 1, none⟩ = some (.int .i64 py) ∧ W.cell? ⟨w.heap.size + 2, 0, none⟩ = some (.int .i64 qx) ∧ W.cell? ⟨w.heap.size + 2, 1, none⟩ = some (.int .i64 qy) ∧ Below w.heap.size w W ∧ w.heap.size + 3 ≤ W.heap.size)
        case first =>
          obtain ⟨wT, hT⟩ : ∃ W, W = (((w.alloc (.cells #[.int .i64 ax, .int .i64 ay, .int .i64 bx, .int .i64 bY] 37)).alloc (.cells #[.int .i64 px, .int .i64 py] 35)).alloc (.cells #[.int .i64 qx, .int .i64 qy] 35)) := ⟨_, rfl⟩
          have m0 : wT.cell? ⟨w.heap.size, 0, none⟩ = some (.int .i64 ax) := by rw [hT]; go_simp
          have m1 : wT.cell? ⟨w.heap.size, 1, none⟩ = some (.int .i64 ay) := by rw [hT]; go_simp
          have m2 : wT.cell? ⟨w.heap.size, 2, none⟩ = some (.int .i64 bx) := by rw [hT]; go_simp
          have m3 : wT.cell? ⟨w.heap.size, 3, none⟩ = some (.int .i64 bY) := by rw [hT]; go_simp
          have m4 : wT.cell? ⟨w.heap.size + 1, 0, none⟩ = some (.int .i64 px) := by rw [hT]; go_simp
          have m5 : wT.cell? ⟨w.heap.size + 1, 1, none⟩ = some (.int .i64 py) := by rw [hT]; go_simp
          have m6 : wT.cell? ⟨w.heap.size + 1 + 1, 0, none⟩ = some (.int .i64 qx) := by rw [hT]; go_simp
          have m7 : wT.cell? ⟨w.heap.size + 1 + 1, 1, none⟩ = some (.int .i64 qy) := by rw [hT]; go_simp
          have HBT := hide (show Below w.heap.size w wT by rw [hT]; exact bwz)
          have zT2 : w.heap.size + 1 + 1 < wT.heap.size := by rw [hT]; simp
          have zT1 : w.heap.size + 1 < wT.heap.size := by omega
          have zT0 : w.heap.size < wT.heap.size := by omega
          rw [← hT]
          clear hT
          refine wp_region_held_drew (S := fun W => Below wT.heap.size wT W) (by kernel_rfl) (Below.drew (Below.refl _ _)) (fun hHeld => ?_)
          refine tkL 0 (some 7) rfl ?_; (try simp only [pz])
          refine tkL 1 (some 8) rfl ?_; (try simp only [pz])
          refine tkL 3 (some 10) rfl ?_; (try simp only [pz])
          refine tkL 4 (some 11) rfl ?_; (try simp only [pz])
          refine wpAnyH_ready (rs := [2]) (by kernel_rfl) (by simp) ?_; refine (AllReadyH.cons (o := ⟨some 9, _, _, _, _, _⟩) rfl (fun K hK => ?_) AllReadyH.nil)
          go_simp; (first | (go_at_call 100; (with_reducible refine (K1.out _).mono ?_); rintro e w9 ⟨rfl, hb⟩) | (go_at_call 100; (with_reducible refine (K2.out _).mono ?_); rintro e w9 ⟨rfl, hb⟩) | (go_at_call 101; (with_reducible refine (K3.out _).mono ?_); rintro e w9 ⟨rfl, hb⟩) | (go_at_call 101; (with_reducible refine (K4.out _).mono ?_); rintro e w9 ⟨rfl, hb⟩))
          all_goals (try go_wp2_with fail)
          refine hK.out _ _ ?_ (fun hH2 => ?_)
          · first | exact bstep hHeld hb | exact hHeld.trans hb | exact hHeld
          clear hK K hHeld; (have hHeld := hH2); clear hH2; (try simp only [pz])
          refine wpAnyH_ready (rs := [5]) (by kernel_rfl) (by simp) ?_; refine (AllReadyH.cons (o := ⟨some 12, _, _, _, _, _⟩) rfl (fun K hK => ?_) AllReadyH.nil)
          go_simp; (first | (go_at_call 100; (with_reducible refine (K1.out _).mono ?_); rintro e w9 ⟨rfl, hb⟩) | (go_at_call 100; (with_reducible refine (K2.out _).mono ?_); rintro e w9 ⟨rfl, hb⟩) | (go_at_call 101; (with_reducible refine (K3.out _).mono ?_); rintro e w9 ⟨rfl, hb⟩) | (go_at_call 101; (with_reducible refine (K4.out _).mono ?_); rintro e w9 ⟨rfl, hb⟩))
          all_goals (try go_wp2_with fail)
          refine hK.out _ _ ?_ (fun hH2 => ?_)
          · first | exact bstep hHeld hb | exact hHeld.trans hb | exact hHeld
          clear hK K hHeld; (have hHeld := hH2); clear hH2; (try simp only [pz])
          refine tkN 6 (some 13) rfl ?_; (try simp only [pz])
          refine tkN 7 (some 14) rfl ?_; (try simp only [pz])
          refine tkL 8 (some 15) rfl ?_; (try simp only [pz])
          refine tkL 9 (some 16) rfl ?_; (try simp only [pz])
          refine tkN 10 (some 17) rfl ?_; (try simp only [pz])
          refine tkL 11 (some 18) rfl ?_; (try simp only [pz])
          refine tkL 13 (some 20) rfl ?_; (try simp only [pz])
          refine tkL 14 (some 21) rfl ?_; (try simp only [pz])
          refine tkN 15 (some 22) rfl ?_; (try simp only [pz])
          refine tkL 16 (some 23) rfl ?_; (try simp only [pz])
          refine wpAnyH_ready (rs := [12]) (by kernel_rfl) (by simp) ?_; refine (AllReadyH.cons (o := ⟨some 19, _, _, _, _, _⟩) rfl (fun K hK => ?_) AllReadyH.nil)
          go_simp; (first | (go_at_call 100; (with_reducible refine (K1.out _).mono ?_); rintro e w9 ⟨rfl, hb⟩) | (go_at_call 100; (with_reducible refine (K2.out _).mono ?_); rintro e w9 ⟨rfl, hb⟩) | (go_at_call 101; (with_reducible refine (K3.out _).mono ?_); rintro e w9 ⟨rfl, hb⟩) | (go_at_call 101; (with_reducible refine (K4.out _).mono ?_); rintro e w9 ⟨rfl, hb⟩))
          all_goals (try go_wp2_with fail)
          refine hK.out _ _ ?_ (fun hH2 => ?_)
          · first | exact bstep hHeld hb | exact hHeld.trans hb | exact hHeld
          clear hK K hHeld; (have hHeld := hH2); clear hH2; (try simp only [pz])
          refine wpAnyH_ready (rs := [17]) (by kernel_rfl) (by simp) ?_; refine (AllReadyH.cons (o := ⟨some 24, _, _, _, _, _⟩) rfl (fun K hK => ?_) AllReadyH.nil)
          go_simp; (first | (go_at_call 100; (with_reducible refine (K1.out _).mono ?_); rintro e w9 ⟨rfl, hb⟩) | (go_at_call 100; (with_reducible refine (K2.out _).mono ?_); rintro e w9 ⟨rfl, hb⟩) | (go_at_call 101; (with_reducible refine (K3.out _).mono ?_); rintro e w9 ⟨rfl, hb⟩) | (go_at_call 101; (with_reducible refine (K4.out _).mono ?_); rintro e w9 ⟨rfl, hb⟩))
          all_goals (try go_wp2_with fail)
          refine hK.out _ _ ?_ (fun hH2 => ?_)
          · first | exact bstep hHeld hb | exact hHeld.trans hb | exact hHeld
          clear hK K hHeld; (have hHeld := hH2); clear hH2; (try simp only [pz])
          refine tkN 18 (some 25) rfl ?_; (try simp only [pz])
          refine tkN 19 (some 26) rfl ?_; (try simp only [pz])
          refine tkN 20 (some 27) rfl ?_; (try simp only [pz])
          refine wpAnyH_done (by kernel_rfl) ?_ _; (try simp only [pz])
          go_wp2_with fail
          go_meet
          exact ⟨by first | rfl | (simp [*]; done), cell_later hHeld m0, cell_later hHeld m1, cell_later hHeld m2, cell_later hHeld m3, cell_later hHeld m4, cell_later hHeld m5, cell_later hHeld m6, cell_later hHeld m7, bstep HBT.out hHeld, (by have := hHeld.size; omega)⟩
        case rest =>
          obtain ⟨rfl, m0, m1, m2, m3, m4, m5, m6, m7, kB, kz⟩ := hcut
          have zT2 : w.heap.size + 1 + 1 < wc.heap.size := by omega
          have zT1 : w.heap.size + 1 < wc.heap.size := by omega
          have zT0 : w.heap.size < wc.heap.size := by omega
          go_wp2_with (go_at_call 100; (with_reducible refine (K1.out _).mono ?_); rintro e w9 ⟨rfl, hb⟩)
          go_ret
          exact ⟨by rw [Hr9.out, d1.out, d2.out, d3.out]; rw [if_neg (by decide), if_neg (of_decide_eq_false d2.out)]; rfl, bwz⟩
  · rcases (Classical.em (0 < s2)) with p2 | p2
    · have d1 := hide (show decide (0 < s1) = false from decide_eq_false p1)
      have d2 := hide (show decide (0 < s2) = true from decide_eq_true p2)
      rw [d1.out] at K1
      rw [d2.out] at K2
      simp only [Bool.not_true, Bool.not_false] at K1 K2
      have K1 := hide K1
      have K2 := hide K2
      have K3 := hide K3
      have K4 := hide K4
      rcases (Classical.em (0 < u1 * u2)) with p3 | p3
      · have d3 := hide (show decide (0 < u1 * u2) = true from decide_eq_true p3)
        go_enter Tryz.func86, Tryz.ntmps86
        go_upto_region 1 with fail
        go_cut [27] (fun s7 W => s7 = .bool true ∧ W.cell? ⟨w.heap.size, 0, none⟩ = some (.int .i64 ax) ∧ W.cell? ⟨w.heap.size, 1, none⟩ = some (.int .i64 ay) ∧ W.cell? ⟨w.heap.size, 2, none⟩ = some (.int .i64 bx) ∧ W.cell? ⟨w.heap.size, 3, none⟩ = some (.int .i64 bY) ∧ W.cell? ⟨w.heap.size + 1, 0, none⟩ = some (.int .i64 px) ∧ W.cell? ⟨w.heap.size + 1, 1, none⟩ = some (.int .i64 py) ∧ W.cell? ⟨w.heap.size + 2, 0, none⟩ = some (.int .i64 qx) ∧ W.cell? ⟨w.heap.size + 2, 1, none⟩ = some (.int .i64 qy) ∧ Below w.heap.size w W ∧ w.heap.size + 3 ≤ W.heap.size)
        case first =>
          obtain ⟨wT, hT⟩ : ∃ W, W = (((w.alloc (.cells #[.int .i64 ax, .int .i64 ay, .int .i64 bx, .int .i64 bY] 37)).alloc (.cells #[.int .i64 px, .int .i64 py] 35)).alloc (.cells #[.int .i64 qx, .int .i64 qy] 35)) := ⟨_, rfl⟩
          have m0 : wT.cell? ⟨w.heap.size, 0, none⟩ = some (.int .i64 ax) := by rw [hT]; go_simp
          have m1 : wT.cell? ⟨w.heap.size, 1, none⟩ = some (.int .i64 ay) := by rw [hT]; go_simp
          have m2 : wT.cell? ⟨w.heap.size, 2, none⟩ = some (.int .i64 bx) := by rw [hT]; go_simp
          have m3 : wT.cell? ⟨w.heap.size, 3, none⟩ = some (.int .i64 bY) := by rw [hT]; go_simp
          have m4 : wT.cell? ⟨w.heap.size + 1, 0, none⟩ = some (.int .i64 px) := by rw [hT]; go_simp
          have m5 : wT.cell? ⟨w.heap.size + 1, 1, none⟩ = some (.int .i64 py) := by rw [hT]; go_simp
          have m6 : wT.cell? ⟨w.heap.size + 1 + 1, 0, none⟩ = some (.int .i64 qx) := by rw [hT]; go_simp
          have m7 : wT.cell? ⟨w.heap.size + 1 + 1, 1, none⟩ = some (.int .i64 qy) := by rw [hT]; go_simp
          have HBT := hide (show Below w.heap.size w wT by rw [hT]; exact bwz)
          have zT2 : w.heap.size + 1 + 1 < wT.heap.size := by rw [hT]; simp
          have zT1 : w.heap.size + 1 < wT.heap.size := by omega
          have zT0 : w.heap.size < wT.heap.size := by omega
          rw [← hT]
          clear hT
          refine wp_region_held_drew (S := fun W => Below wT.heap.size wT W) (by kernel_rfl) (Below.drew (Below.refl _ _)) (fun hHeld => ?_)
          refine tkL 0 (some 7) rfl ?_; (try simp only [pz])
          refine tkL 1 (some 8) rfl ?_; (try simp only [pz])
          refine tkL 3 (some 10) rfl ?_; (try simp only [pz])
          refine tkL 4 (some 11) rfl ?_; (try simp only [pz])
          refine wpAnyH_ready (rs := [2]) (by kernel_rfl) (by simp) ?_; refine (AllReadyH.cons (o := ⟨some 9, _, _, _, _, _⟩) rfl (fun K hK => ?_) AllReadyH.nil)
          go_simp; (first | (go_at_call 100; (with_reducible refine (K1.out _).mono ?_); rintro e w9 ⟨rfl, hb⟩) | (go_at_call 100; (with_reducible refine (K2.out _).mono ?_); rintro e w9 ⟨rfl, hb⟩) | (go_at_call 101; (with_reducible refine (K3.out _).mono ?_); rintro e w9 ⟨rfl, hb⟩) | (go_at_call 101; (with_reducible refine (K4.out _).mono ?_); rintro e w9 ⟨rfl, hb⟩))
          all_goals (try go_wp2_with fail)
          refine hK.out _ _ ?_ (fun hH2 => ?_)
          · first | exact bstep hHeld hb | exact hHeld.trans hb | exact hHeld
          clear hK K hHeld; (have hHeld := hH2); clear hH2; (try simp only [pz])
          refine wpAnyH_ready (rs := [5]) (by kernel_rfl) (by simp) ?_; refine (AllReadyH.cons (o := ⟨some 12, _, _, _, _, _⟩) rfl (fun K hK => ?_) AllReadyH.nil)
          go_simp; (first | (go_at_call 100; (with_reducible refine (K1.out _).mono ?_); rintro e w9 ⟨rfl, hb⟩) | (go_at_call 100; (with_reducible refine (K2.out _).mono ?_); rintro e w9 ⟨rfl, hb⟩) | (go_at_call 101; (with_reducible refine (K3.out _).mono ?_); rintro e w9 ⟨rfl, hb⟩) | (go_at_call 101; (with_reducible refine (K4.out _).mono ?_); rintro e w9 ⟨rfl, hb⟩))
          all_goals (try go_wp2_with fail)
          refine hK.out _ _ ?_ (fun hH2 => ?_)
          · first | exact bstep hHeld hb | exact hHeld.trans hb | exact hHeld
          clear hK K hHeld; (have hHeld := hH2); clear hH2; (try simp only [pz])
          refine tkN 6 (some 13) rfl ?_; (try simp only [pz])
          refine tkN 7 (some 14) rfl ?_; (try simp only [pz])
          refine tkL 8 (some 15) rfl ?_; (try simp only [pz])
          refine tkL 9 (some 16) rfl ?_; (try simp only [pz])
          refine tkN 10 (some 17) rfl ?_; (try simp only [pz])
          refine tkL 11 (some 18) rfl ?_; (try simp only [pz])
          refine tkL 13 (some 20) rfl ?_; (try simp only [pz])
          refine tkL 14 (some 21) rfl ?_; (try simp only [pz])
          refine tkN 15 (some 22) rfl ?_; (try simp only [pz])
          refine tkL 16 (some 23) rfl ?_; (try simp only [pz])
          refine wpAnyH_ready (rs := [12]) (by kernel_rfl) (by simp) ?_; refine (AllReadyH.cons (o := ⟨some 19, _, _, _, _, _⟩) rfl (fun K hK => ?_) AllReadyH.nil)
          go_simp; (first | (go_at_call 100; (with_reducible refine (K1.out _).mono ?_); rintro e w9 ⟨rfl, hb⟩) | (go_at_call 100; (with_reducible refine (K2.out _).mono ?_); rintro e w9 ⟨rfl, hb⟩) | (go_at_call 101; (with_reducible refine (K3.out _).mono ?_); rintro e w9 ⟨rfl, hb⟩) | (go_at_call 101; (with_reducible refine (K4.out _).mono ?_); rintro e w9 ⟨rfl, hb⟩))
          all_goals (try go_wp2_with fail)
          refine hK.out _ _ ?_ (fun hH2 => ?_)
          · first | exact bstep hHeld hb | exact hHeld.trans hb | exact hHeld
          clear hK K hHeld; (have hHeld := hH2); clear hH2; (try simp only [pz])
          refine wpAnyH_ready (rs := [17]) (by kernel_rfl) (by simp) ?_; refine (AllReadyH.cons (o := ⟨some 24, _, _, _, _, _⟩) rfl (fun K hK => ?_) AllReadyH.nil)
          go_simp; (first | (go_at_call 100; (with_reducible refine (K1.out _).mono ?_); rintro e w9 ⟨rfl, hb⟩) | (go_at_call 100; (with_reducible refine (K2.out _).mono ?_); rintro e w9 ⟨rfl, hb⟩) | (go_at_call 101; (with_reducible refine (K3.out _).mono ?_); rintro e w9 ⟨rfl, hb⟩) | (go_at_call 101; (with_reducible refine (K4.out _).mono ?_); rintro e w9 ⟨rfl, hb⟩))
          all_goals (try go_wp2_with fail)
          refine hK.out _ _ ?_ (fun hH2 => ?_)
          · first | exact bstep hHeld hb | exact hHeld.trans hb | exact hHeld
          clear hK K hHeld; (have hHeld := hH2); clear hH2; (try simp only [pz])
          refine tkN 18 (some 25) rfl ?_; (try simp only [pz])
          refine tkN 19 (some 26) rfl ?_; (try simp only [pz])
          refine tkN 20 (some 27) rfl ?_; (try simp only [pz])
          refine wpAnyH_done (by kernel_rfl) ?_ _; (try simp only [pz])
          go_wp2_with fail
          go_meet
          exact ⟨by first | rfl | (simp [*]; done), cell_later hHeld m0, cell_later hHeld m1, cell_later hHeld m2, cell_later hHeld m3, cell_later hHeld m4, cell_later hHeld m5, cell_later hHeld m6, cell_later hHeld m7, bstep HBT.out hHeld, (by have := hHeld.size; omega)⟩
        case rest =>
          obtain ⟨rfl, m0, m1, m2, m3, m4, m5, m6, m7, kB, kz⟩ := hcut
          have zT2 : w.heap.size + 1 + 1 < wc.heap.size := by omega
          have zT1 : w.heap.size + 1 < wc.heap.size := by omega
          have zT0 : w.heap.size < wc.heap.size := by omega
          go_wp2
          go_ret
          exact ⟨by rw [Hr9.out, d1.out, d2.out, d3.out]; rfl, bwz⟩
      · have d3 := hide (show decide (0 < u1 * u2) = false from decide_eq_false p3)
        go_enter Tryz.func86, Tryz.ntmps86
        go_upto_region 1 with fail
        go_cut [27] (fun s7 W => s7 = .bool false ∧ W.cell? ⟨w.heap.size, 0, none⟩ = some (.int .i64 ax) ∧ W.cell? ⟨w.heap.size, 1, none⟩ = some (.int .i64 ay) ∧ W.cell? ⟨w.heap.size, 2, none⟩ = some (.int .i64 bx) ∧ W.cell? ⟨w.heap.size, 3, none⟩ = some (.int .i64 bY) ∧ W.cell? ⟨w.heap.size + 1, 0, none⟩ = some (.int .i64 px) ∧ W.cell? ⟨w.heap.size + 1, 1, none⟩ = some (.int .i64 py) ∧ W.cell? ⟨w.heap.size + 2, 0, none⟩ = some (.int .i64 qx) ∧ W.cell? ⟨w.heap.size + 2, 1, none⟩ = some (.int .i64 qy) ∧ Below w.heap.size w W ∧ w.heap.size + 3 ≤ W.heap.size)
        case first =>
          obtain ⟨wT, hT⟩ : ∃ W, W = (((w.alloc (.cells #[.int .i64 ax, .int .i64 ay, .int .i64 bx, .int .i64 bY] 37)).alloc (.cells #[.int .i64 px, .int .i64 py] 35)).alloc (.cells #[.int .i64 qx, .int .i64 qy] 35)) := ⟨_, rfl⟩
          have m0 : wT.cell? ⟨w.heap.size, 0, none⟩ = some (.int .i64 ax) := by rw [hT]; go_simp
          have m1 : wT.cell? ⟨w.heap.size, 1, none⟩ = some (.int .i64 ay) := by rw [hT]; go_simp
          have m2 : wT.cell? ⟨w.heap.size, 2, none⟩ = some (.int .i64 bx) := by rw [hT]; go_simp
          have m3 : wT.cell? ⟨w.heap.size, 3, none⟩ = some (.int .i64 bY) := by rw [hT]; go_simp
          have m4 : wT.cell? ⟨w.heap.size + 1, 0, none⟩ = some (.int .i64 px) := by rw [hT]; go_simp
          have m5 : wT.cell? ⟨w.heap.size + 1, 1, none⟩ = some (.int .i64 py) := by rw [hT]; go_simp
          have m6 : wT.cell? ⟨w.heap.size + 1 + 1, 0, none⟩ = some (.int .i64 qx) := by rw [hT]; go_simp
          have m7 : wT.cell? ⟨w.heap.size + 1 + 1, 1, none⟩ = some (.int .i64 qy) := by rw [hT]; go_simp
          have HBT := hide (show Below w.heap.size w wT by rw [hT]; exact bwz)
          have zT2 : w.heap.size + 1 + 1 < wT.heap.size := by rw [hT]; simp
          have zT1 : w.heap.size + 1 < wT.heap.size := by omega
          have zT0 : w.heap.size < wT.heap.size := by omega
          rw [← hT]
          clear hT
          refine wp_region_held_drew (S := fun W => Below wT.heap.size wT W) (by kernel_rfl) (Below.drew (Below.refl _ _)) (fun hHeld => ?_)
          refine tkL 0 (some 7) rfl ?_; (try simp only [pz])
          refine tkL 1 (some 8) rfl ?_; (try simp only [pz])
          refine tkL 3 (some 10) rfl ?_; (try simp only [pz])
          refine tkL 4 (some 11) rfl ?_; (try simp only [pz])
          refine wpAnyH_ready (rs := [2]) (by kernel_rfl) (by simp) ?_; refine (AllReadyH.cons (o := ⟨some 9, _, _, _, _, _⟩) rfl (fun K hK => ?_) AllReadyH.nil)
          go_simp; (first | (go_at_call 100; (with_reducible refine (K1.out _).mono ?_); rintro e w9 ⟨rfl, hb⟩) | (go_at_call 100; (with_reducible refine (K2.out _).mono ?_); rintro e w9 ⟨rfl, hb⟩) | (go_at_call 101; (with_reducible refine (K3.out _).mono ?_); rintro e w9 ⟨rfl, hb⟩) | (go_at_call 101; (with_reducible refine (K4.out _).mono ?_); rintro e w9 ⟨rfl, hb⟩))
          all_goals (try go_wp2_with fail)
          refine hK.out _ _ ?_ (fun hH2 => ?_)
          · first | exact bstep hHeld hb | exact hHeld.trans hb | exact hHeld
          clear hK K hHeld; (have hHeld := hH2); clear hH2; (try simp only [pz])
          refine wpAnyH_ready (rs := [5]) (by kernel_rfl) (by simp) ?_; refine (AllReadyH.cons (o := ⟨some 12, _, _, _, _, _⟩) rfl (fun K hK => ?_) AllReadyH.nil)
          go_simp; (first | (go_at_call 100; (with_reducible refine (K1.out _).mono ?_); rintro e w9 ⟨rfl, hb⟩) | (go_at_call 100; (with_reducible refine (K2.out _).mono ?_); rintro e w9 ⟨rfl, hb⟩) | (go_at_call 101; (with_reducible refine (K3.out _).mono ?_); rintro e w9 ⟨rfl, hb⟩) | (go_at_call 101; (with_reducible refine (K4.out _).mono ?_); rintro e w9 ⟨rfl, hb⟩))
          all_goals (try go_wp2_with fail)
          refine hK.out _ _ ?_ (fun hH2 => ?_)
          · first | exact bstep hHeld hb | exact hHeld.trans hb | exact hHeld
          clear hK K hHeld; (have hHeld := hH2); clear hH2; (try simp only [pz])
          refine tkN 6 (some 13) rfl ?_; (try simp only [pz])
          refine tkN 7 (some 14) rfl ?_; (try simp only [pz])
          refine tkL 8 (some 15) rfl ?_; (try simp only [pz])
          refine tkL 9 (some 16) rfl ?_; (try simp only [pz])
          refine tkN 10 (some 17) rfl ?_; (try simp only [pz])
          refine tkL 11 (some 18) rfl ?_; (try simp only [pz])
          refine tkL 13 (some 20) rfl ?_; (try simp only [pz])
          refine tkL 14 (some 21) rfl ?_; (try simp only [pz])
          refine tkN 15 (some 22) rfl ?_; (try simp only [pz])
          refine tkL 16 (some 23) rfl ?_; (try simp only [pz])
          refine wpAnyH_ready (rs := [12]) (by kernel_rfl) (by simp) ?_; refine (AllReadyH.cons (o := ⟨some 19, _, _, _, _, _⟩) rfl (fun K hK => ?_) AllReadyH.nil)
          go_simp; (first | (go_at_call 100; (with_reducible refine (K1.out _).mono ?_); rintro e w9 ⟨rfl, hb⟩) | (go_at_call 100; (with_reducible refine (K2.out _).mono ?_); rintro e w9 ⟨rfl, hb⟩) | (go_at_call 101; (with_reducible refine (K3.out _).mono ?_); rintro e w9 ⟨rfl, hb⟩) | (go_at_call 101; (with_reducible refine (K4.out _).mono ?_); rintro e w9 ⟨rfl, hb⟩))
          all_goals (try go_wp2_with fail)
          refine hK.out _ _ ?_ (fun hH2 => ?_)
          · first | exact bstep hHeld hb | exact hHeld.trans hb | exact hHeld
          clear hK K hHeld; (have hHeld := hH2); clear hH2; (try simp only [pz])
          refine wpAnyH_ready (rs := [17]) (by kernel_rfl) (by simp) ?_; refine (AllReadyH.cons (o := ⟨some 24, _, _, _, _, _⟩) rfl (fun K hK => ?_) AllReadyH.nil)
          go_simp; (first | (go_at_call 100; (with_reducible refine (K1.out _).mono ?_); rintro e w9 ⟨rfl, hb⟩) | (go_at_call 100; (with_reducible refine (K2.out _).mono ?_); rintro e w9 ⟨rfl, hb⟩) | (go_at_call 101; (with_reducible refine (K3.out _).mono ?_); rintro e w9 ⟨rfl, hb⟩) | (go_at_call 101; (with_reducible refine (K4.out _).mono ?_); rintro e w9 ⟨rfl, hb⟩))
          all_goals (try go_wp2_with fail)
          refine hK.out _ _ ?_ (fun hH2 => ?_)
          · first | exact bstep hHeld hb | exact hHeld.trans hb | exact hHeld
          clear hK K hHeld; (have hHeld := hH2); clear hH2; (try simp only [pz])
          refine tkN 18 (some 25) rfl ?_; (try simp only [pz])
          refine tkN 19 (some 26) rfl ?_; (try simp only [pz])
          refine tkN 20 (some 27) rfl ?_; (try simp only [pz])
          refine wpAnyH_done (by kernel_rfl) ?_ _; (try simp only [pz])
          go_wp2_with fail
          go_meet
          exact ⟨by first | rfl | (simp [*]; done), cell_later hHeld m0, cell_later hHeld m1, cell_later hHeld m2, cell_later hHeld m3, cell_later hHeld m4, cell_later hHeld m5, cell_later hHeld m6, cell_later hHeld m7, bstep HBT.out hHeld, (by have := hHeld.size; omega)⟩
        case rest =>
          obtain ⟨rfl, m0, m1, m2, m3, m4, m5, m6, m7, kB, kz⟩ := hcut
          have zT2 : w.heap.size + 1 + 1 < wc.heap.size := by omega
          have zT1 : w.heap.size + 1 < wc.heap.size := by omega
          have zT0 : w.heap.size < wc.heap.size := by omega
          go_wp2_with (go_at_call 100; (with_reducible refine (K1.out _).mono ?_); rintro e w9 ⟨rfl, hb⟩)
          go_ret
          exact ⟨by rw [Hr9.out, d1.out, d2.out, d3.out]; rw [if_neg (by decide), if_pos (of_decide_eq_true d2.out)]; rfl, bwz⟩
    · have d1 := hide (show decide (0 < s1) = false from decide_eq_false p1)
      have d2 := hide (show decide (0 < s2) = false from decide_eq_false p2)
      rw [d1.out] at K1
      rw [d2.out] at K2
      simp only [Bool.not_true, Bool.not_false] at K1 K2
      have K1 := hide K1
      have K2 := hide K2
      have K3 := hide K3
      have K4 := hide K4
      go_enter Tryz.func86, Tryz.ntmps86
      go_upto_region 1 with fail
      go_cut [27] (fun s7 W => s7 = .bool true ∧ W.cell? ⟨w.heap.size, 0, none⟩ = some (.int .i64 ax) ∧ W.cell? ⟨w.heap.size, 1, none⟩ = some (.int .i64 ay) ∧ W.cell? ⟨w.heap.size, 2, none⟩ = some (.int .i64 bx) ∧ W.cell? ⟨w.heap.size, 3, none⟩ = some (.int .i64 bY) ∧ W.cell? ⟨w.heap.size + 1, 0, none⟩ = some (.int .i64 px) ∧ W.cell? ⟨w.heap.size + 1, 1, none⟩ = some (.int .i64 py) ∧ W.cell? ⟨w.heap.size + 2, 0, none⟩ = some (.int .i64 qx) ∧ W.cell? ⟨w.heap.size + 2, 1, none⟩ = some (.int .i64 qy) ∧ Below w.heap.size w W ∧ w.heap.size + 3 ≤ W.heap.size)
      case first =>
        obtain ⟨wT, hT⟩ : ∃ W, W = (((w.alloc (.cells #[.int .i64 ax, .int .i64 ay, .int .i64 bx, .int .i64 bY] 37)).alloc (.cells #[.int .i64 px, .int .i64 py] 35)).alloc (.cells #[.int .i64 qx, .int .i64 qy] 35)) := ⟨_, rfl⟩
        have m0 : wT.cell? ⟨w.heap.size, 0, none⟩ = some (.int .i64 ax) := by rw [hT]; go_simp
        have m1 : wT.cell? ⟨w.heap.size, 1, none⟩ = some (.int .i64 ay) := by rw [hT]; go_simp
        have m2 : wT.cell? ⟨w.heap.size, 2, none⟩ = some (.int .i64 bx) := by rw [hT]; go_simp
        have m3 : wT.cell? ⟨w.heap.size, 3, none⟩ = some (.int .i64 bY) := by rw [hT]; go_simp
        have m4 : wT.cell? ⟨w.heap.size + 1, 0, none⟩ = some (.int .i64 px) := by rw [hT]; go_simp
        have m5 : wT.cell? ⟨w.heap.size + 1, 1, none⟩ = some (.int .i64 py) := by rw [hT]; go_simp
        have m6 : wT.cell? ⟨w.heap.size + 1 + 1, 0, none⟩ = some (.int .i64 qx) := by rw [hT]; go_simp
        have m7 : wT.cell? ⟨w.heap.size + 1 + 1, 1, none⟩ = some (.int .i64 qy) := by rw [hT]; go_simp
        have HBT := hide (show Below w.heap.size w wT by rw [hT]; exact bwz)
        have zT2 : w.heap.size + 1 + 1 < wT.heap.size := by rw [hT]; simp
        have zT1 : w.heap.size + 1 < wT.heap.size := by omega
        have zT0 : w.heap.size < wT.heap.size := by omega
        rw [← hT]
        clear hT
        refine wp_region_held_drew (S := fun W => Below wT.heap.size wT W) (by kernel_rfl) (Below.drew (Below.refl _ _)) (fun hHeld => ?_)
        refine tkL 0 (some 7) rfl ?_; (try simp only [pz])
        refine tkL 1 (some 8) rfl ?_; (try simp only [pz])
        refine tkL 3 (some 10) rfl ?_; (try simp only [pz])
        refine tkL 4 (some 11) rfl ?_; (try simp only [pz])
        refine wpAnyH_ready (rs := [2]) (by kernel_rfl) (by simp) ?_; refine (AllReadyH.cons (o := ⟨some 9, _, _, _, _, _⟩) rfl (fun K hK => ?_) AllReadyH.nil)
        go_simp; (first | (go_at_call 100; (with_reducible refine (K1.out _).mono ?_); rintro e w9 ⟨rfl, hb⟩) | (go_at_call 100; (with_reducible refine (K2.out _).mono ?_); rintro e w9 ⟨rfl, hb⟩))
        all_goals (try go_wp2_with fail)
        refine hK.out _ _ ?_ (fun hH2 => ?_)
        · first | exact bstep hHeld hb | exact hHeld.trans hb | exact hHeld
        clear hK K hHeld; (have hHeld := hH2); clear hH2; (try simp only [pz])
        refine wpAnyH_ready (rs := [5]) (by kernel_rfl) (by simp) ?_; refine (AllReadyH.cons (o := ⟨some 12, _, _, _, _, _⟩) rfl (fun K hK => ?_) AllReadyH.nil)
        go_simp; (first | (go_at_call 100; (with_reducible refine (K1.out _).mono ?_); rintro e w9 ⟨rfl, hb⟩) | (go_at_call 100; (with_reducible refine (K2.out _).mono ?_); rintro e w9 ⟨rfl, hb⟩))
        all_goals (try go_wp2_with fail)
        refine hK.out _ _ ?_ (fun hH2 => ?_)
        · first | exact bstep hHeld hb | exact hHeld.trans hb | exact hHeld
        clear hK K hHeld; (have hHeld := hH2); clear hH2; (try simp only [pz])
        refine tkN 6 (some 13) rfl ?_; (try simp only [pz])
        refine tkN 7 (some 14) rfl ?_; (try simp only [pz])
        refine tkO 8 (some 15) rfl ?_; (try simp only [pz])
        refine tkO 9 (some 16) rfl ?_; (try simp only [pz])
        refine tkO 10 (some 17) rfl ?_; (try simp only [pz])
        refine tkO 11 (some 18) rfl ?_; (try simp only [pz])
        refine tkO 12 (some 19) rfl ?_; (try simp only [pz])
        refine tkO 13 (some 20) rfl ?_; (try simp only [pz])
        refine tkO 14 (some 21) rfl ?_; (try simp only [pz])
        refine tkO 15 (some 22) rfl ?_; (try simp only [pz])
        refine tkO 16 (some 23) rfl ?_; (try simp only [pz])
        refine tkO 17 (some 24) rfl ?_; (try simp only [pz])
        refine tkO 18 (some 25) rfl ?_; (try simp only [pz])
        refine tkO 19 (some 26) rfl ?_; (try simp only [pz])
        refine tkN 20 (some 27) rfl ?_; (try simp only [pz])
        refine wpAnyH_done (by kernel_rfl) ?_ _; (try simp only [pz])
        go_wp2_with fail
        go_meet
        exact ⟨by first | rfl | (simp [*]; done), cell_later hHeld m0, cell_later hHeld m1, cell_later hHeld m2, cell_later hHeld m3, cell_later hHeld m4, cell_later hHeld m5, cell_later hHeld m6, cell_later hHeld m7, bstep HBT.out hHeld, (by have := hHeld.size; omega)⟩
      case rest =>
        obtain ⟨rfl, m0, m1, m2, m3, m4, m5, m6, m7, kB, kz⟩ := hcut
        have zT2 : w.heap.size + 1 + 1 < wc.heap.size := by omega
        have zT1 : w.heap.size + 1 < wc.heap.size := by omega
        have zT0 : w.heap.size < wc.heap.size := by omega
        go_wp2
        go_ret
        exact ⟨by rw [Hr9.out, d1.out, d2.out]; rfl, bwz⟩
/-- What is known where a line is crossed. -/
theorem cp_pre {ax ay bx bY px py qx qy : Int} (hl : isSg ax ay bx bY = true) (hp : isPt px py = true) (hq : isPt qx qy = true) :
    -8000000000000 ≤ crs ax ay bx bY px py ∧ crs ax ay bx bY px py ≤ 8000000000000 ∧ -8000000000000 ≤ crs ax ay bx bY qx qy ∧ crs ax ay bx bY qx qy ≤ 8000000000000 := by
  obtain ⟨ha, hb, _⟩ := isSg_t hl
  obtain ⟨_, _, c0, c1⟩ := pt_bd3 ha hb hp
  obtain ⟨_, _, c2, c3⟩ := pt_bd3 ha hb hq
  omega
theorem way_ne {ax ay bx bY px py qx qy : Int} (h : ¬ wayI ax ay bx bY px py qx qy = 0) : (px == qx && py == qy) = false := by
  rcases b2 (px == qx && py == qy) with k | k
  · exact k
  · simp only [Bool.and_eq_true, beq_iff_eq] at k
    exfalso
    rcases wayI_cases ax ay bx bY px py qx qy with h1 | ⟨_, h1, h2⟩ | ⟨_, h1, h2⟩
    · exact h h1
    · rw [k.1, k.2] at h1; omega
    · rw [k.1, k.2] at h1; omega
theorem way_sg {ax ay bx bY px py qx qy : Int} (h : ¬ wayI ax ay bx bY px py qx qy = 0) (hp : isPt px py = true) (hq : isPt qx qy = true) : isSg px py qx qy = true := by unfold isSg; rw [hp, hq, way_ne h]; rfl
theorem way_den {ax ay bx bY px py qx qy : Int} (h : ¬ wayI ax ay bx bY px py qx qy = 0) : 1 ≤ absI (crs ax ay bx bY px py) + absI (crs ax ay bx bY qx qy) := by
  unfold absI
  rcases wayI_cases ax ay bx bY px py qx qy with h1 | ⟨_, h1, h2⟩ | ⟨_, h1, h2⟩
  · exact absurd h1 h
  · split <;> split <;> omega
  · split <;> split <;> omega
set_option maxRecDepth 100000 in
set_option maxHeartbeats 8000000 in
theorem impl_CrossingPlace_ok (ax ay bx bY px py qx qy : Int) (hl : isSg ax ay bx bY = true) (hp : isPt px py = true) (hq : isPt qx qy = true) (hw : ¬ wayI ax ay bx bY px py qx qy = 0) (w : World) :
    Calls Tryz.prog 96 #[.agg #[.int .i64 px, .int .i64 py, .int .i64 qx, .int .i64 qy], .agg #[.int .i64 ax, .int .i64 ay, .int .i64 bx, .int .i64 bY]] w fun e w' => e = .returned (.tuple #[.agg #[.int .i64 (cpN (crs ax ay bx bY px py) (crs ax ay bx bY qx qy)), .int .i64 (cpD (crs ax ay bx bY px py) (crs ax ay bx bY qx qy))], .int .i64 0]) ∧ Below w.heap.size w w' := by
  obtain ⟨ha, hb, _⟩ := isSg_t hl
  obtain ⟨s1, s2⟩ := pt_sm ha
  obtain ⟨s3, s4⟩ := pt_sm hb
  obtain ⟨s5, s6⟩ := pt_sm hp
  obtain ⟨s7, s8⟩ := pt_sm hq
  obtain ⟨c0, c1, c2, c3⟩ := cp_pre hl hp hq
  have hd := way_den hw
  have hcs : (crs ax ay bx bY px py ≤ 0 ∧ 0 < crs ax ay bx bY qx qy) ∨ (0 < crs ax ay bx bY px py ∧ crs ax ay bx bY qx qy ≤ 0) := by
    rcases wayI_cases ax ay bx bY px py qx qy with h1 | ⟨_, h1, h2⟩ | ⟨_, h1, h2⟩
    · exact absurd h1 hw
    · exact .inl ⟨h1, h2⟩
    · exact .inr ⟨h1, h2⟩
  have KS := hide (fun W => way_sg hw hp hq ▸ impl_IsSegment px py qx qy W)
  have KL := hide (fun W => hl ▸ impl_IsSegment ax ay bx bY W)
  have K1 := fun W => impl_cross ax ay bx bY px py s1 s2 s3 s4 s5 s6 W
  have K2 := fun W => impl_cross ax ay bx bY qx qy s1 s2 s3 s4 s7 s8 W
  have KR := fun W => impl_lowest (absI (crs ax ay bx bY px py)) (absI (crs ax ay bx bY px py) + absI (crs ax ay bx bY qx qy)) (absI_nn _) (by unfold absI; split <;> omega) hd (by unfold absI; split <;> split <;> omega) W
  unfold cpN cpD
  generalize crs ax ay bx bY px py = a9 at *
  generalize crs ax ay bx bY qx qy = b9 at *
  obtain ⟨n9, hn9⟩ : ∃ n, n = absI a9 := ⟨_, rfl⟩
  obtain ⟨m9, hm9⟩ : ∃ m, m = absI a9 + absI b9 := ⟨_, rfl⟩
  have en : n9 = if a9 < 0 then -a9 else a9 := hn9
  have em : m9 = (if a9 < 0 then -a9 else a9) + (if b9 < 0 then -b9 else b9) := hm9
  rw [← hm9, ← hn9] at KR ⊢
  generalize n9 / gdI n9 m9 = r9 at *
  generalize m9 / gdI n9 m9 = t9 at *
  have K1 := hide K1
  have K2 := hide K2
  have KR := hide KR
  clear hn9 hm9 s1 s2 s3 s4 s5 s6 s7 s8 ha hb hp hq hl hw hd
  rcases hcs with ⟨p1, p2⟩ | ⟨p1, p2⟩
  · rcases Int.lt_or_eq_of_le p1 with k0 | k0
    · have e1 : n9 = -a9 := by rw [en]; (repeat' split) <;> omega
      have e2 : m9 = -a9 + b9 := by rw [em]; (repeat' split) <;> omega
      rw [e1, e2] at KR
      clear en em e1 e2
      have x1 : max a9 (-a9) = -a9 := by omega
      have x2 : max (a9 - b9) (b9 - a9) = -a9 + b9 := by omega
      have x3 : max (-a9) a9 = -a9 := by omega
      have x4 : max (b9 - a9) (a9 - b9) = -a9 + b9 := by omega
      have y1 : ¬ 0 < a9 := by omega
      have y2 : 0 < b9 := by omega
      have y3 : ¬ b9 < 0 := by omega
      have y4 : (b9 == 0) = false := beq_eq_false_iff_ne.2 (by omega)
      have yk : (a9 == 0) = false := beq_eq_false_iff_ne.2 (by omega)
      have yl : a9 < 0 := by omega
      clear k0
      go_enter Tryz.func96, Tryz.ntmps96
      go_upto_region 3 with (first | (go_at_call 82; (with_reducible refine (KS.out _).mono ?_); rintro e w9 ⟨rfl, hb⟩; obtain ⟨hc, hf⟩ := bcell hb; have hz := hb.size; have z0 : w.heap.size < w9.heap.size := (by first | omega | (simp at hz; omega)); have z1 : w.heap.size + 1 < w9.heap.size := (by first | omega | (simp at hz; omega)); have z2 : w.heap.size + 1 + 1 < w9.heap.size := (by first | omega | (simp at hz; omega))) | (go_at_call 82; (with_reducible refine (KL.out _).mono ?_); rintro e w9 ⟨rfl, hb⟩; obtain ⟨hc, hf⟩ := bcell hb; have hz := hb.size; have z0 : w.heap.size < w9.heap.size := (by first | omega | (simp at hz; omega)); have z1 : w.heap.size + 1 < w9.heap.size := (by first | omega | (simp at hz; omega)); have z2 : w.heap.size + 1 + 1 < w9.heap.size := (by first | omega | (simp at hz; omega))))
      go_cut [6, 7] (fun s6 s7 W => s6 = .int .i64 a9 ∧ s7 = .int .i64 b9 ∧ W.cell? ⟨w.heap.size, 0, none⟩ = some (.int .i64 px) ∧ W.cell? ⟨w.heap.size, 1, none⟩ = some (.int .i64 py) ∧ W.cell? ⟨w.heap.size, 2, none⟩ = some (.int .i64 qx) ∧ W.cell? ⟨w.heap.size, 3, none⟩ = some (.int .i64 qy) ∧ W.cell? ⟨w.heap.size + 1, 0, none⟩ = some (.int .i64 ax) ∧ W.cell? ⟨w.heap.size + 1, 1, none⟩ = some (.int .i64 ay) ∧ W.cell? ⟨w.heap.size + 1, 2, none⟩ = some (.int .i64 bx) ∧ W.cell? ⟨w.heap.size + 1, 3, none⟩ = some (.int .i64 bY) ∧ W.cell? ⟨w.heap.size + 2, 0, none⟩ = some (.int .i64 0) ∧ W.frozen? ⟨w.heap.size + 2, 0, none⟩ = false ∧ W.cell? ⟨w.heap.size + 2, 1, none⟩ = some (.int .i64 0) ∧ W.frozen? ⟨w.heap.size + 2, 1, none⟩ = false ∧ Below w.heap.size w W ∧ w.heap.size + 3 ≤ W.heap.size)
      case first =>
        obtain ⟨wT, hT⟩ : ∃ W : World, W = w9 := ⟨_, rfl⟩
        have m0 : w9.cell? ⟨w.heap.size, 0, none⟩ = some (.int .i64 px) := by go_simp
        have m1 : w9.cell? ⟨w.heap.size, 1, none⟩ = some (.int .i64 py) := by go_simp
        have m2 : w9.cell? ⟨w.heap.size, 2, none⟩ = some (.int .i64 qx) := by go_simp
        have m3 : w9.cell? ⟨w.heap.size, 3, none⟩ = some (.int .i64 qy) := by go_simp
        have m4 : w9.cell? ⟨w.heap.size + 1, 0, none⟩ = some (.int .i64 ax) := by go_simp
        have m5 : w9.cell? ⟨w.heap.size + 1, 1, none⟩ = some (.int .i64 ay) := by go_simp
        have m6 : w9.cell? ⟨w.heap.size + 1, 2, none⟩ = some (.int .i64 bx) := by go_simp
        have m7 : w9.cell? ⟨w.heap.size + 1, 3, none⟩ = some (.int .i64 bY) := by go_simp
        have m8 : w9.cell? ⟨w.heap.size + 1 + 1, 0, none⟩ = some (.int .i64 0) := by go_simp
        have m9 : w9.cell? ⟨w.heap.size + 1 + 1, 1, none⟩ = some (.int .i64 0) := by go_simp
        have n0 : w9.frozen? ⟨w.heap.size + 1 + 1, 0, none⟩ = false := by go_simp
        have n1 : w9.frozen? ⟨w.heap.size + 1 + 1, 1, none⟩ = false := by go_simp
        have HBT := hide (show Below w.heap.size w w9 from bwz)
        have zT2 : w.heap.size + 1 + 1 < w9.heap.size := World.block_lt_of_cell? _ _ m8
        rw [← hT] at *
        clear hT hc hf hb
        have zT1 : w.heap.size + 1 < wT.heap.size := by omega
        have zT0 : w.heap.size < wT.heap.size := by omega
        refine wp_region_held_drew (S := fun W => Below wT.heap.size wT W) (by kernel_rfl) (Below.drew (Below.refl _ _)) (fun hHeld => ?_)
        refine tkN 0 (some 17) rfl ?_; (try simp only [pz])
        refine tkL 1 (some 18) rfl ?_; (try simp only [pz])
        refine tkN 2 (some 19) rfl ?_; (try simp only [pz])
        refine tkL 3 (some 20) rfl ?_; (try simp only [pz])
        refine tkN 4 (some 21) rfl ?_; (try simp only [pz])
        refine tkL 5 (some 22) rfl ?_; (try simp only [pz])
        refine tkN 7 (some 24) rfl ?_; (try simp only [pz])
        refine tkL 8 (some 25) rfl ?_; (try simp only [pz])
        refine tkN 9 (some 26) rfl ?_; (try simp only [pz])
        refine tkL 10 (some 27) rfl ?_; (try simp only [pz])
        refine tkN 11 (some 28) rfl ?_; (try simp only [pz])
        refine tkL 12 (some 29) rfl ?_; (try simp only [pz])
        refine wpAnyH_ready (rs := [6]) (by kernel_rfl) (by simp) ?_; refine (AllReadyH.cons (o := ⟨some 23, _, _, _, _, _⟩) rfl (fun K hK => ?_) AllReadyH.nil)
        go_simp; (first | (go_at_call 110; (with_reducible refine (K1.out _).mono ?_); rintro e w9 ⟨rfl, hb⟩) | (go_at_call 110; (with_reducible refine (K2.out _).mono ?_); rintro e w9 ⟨rfl, hb⟩))
        all_goals (try go_wp2_with fail)
        refine hK.out _ _ ?_ (fun hH2 => ?_)
        · first | exact bstep hHeld hb | exact hHeld.trans hb | exact hHeld
        clear hK K hHeld; (have hHeld := hH2); clear hH2; (try simp only [pz])
        refine wpAnyH_ready (rs := [13]) (by kernel_rfl) (by simp) ?_; refine (AllReadyH.cons (o := ⟨some 30, _, _, _, _, _⟩) rfl (fun K hK => ?_) AllReadyH.nil)
        go_simp; (first | (go_at_call 110; (with_reducible refine (K1.out _).mono ?_); rintro e w9 ⟨rfl, hb⟩) | (go_at_call 110; (with_reducible refine (K2.out _).mono ?_); rintro e w9 ⟨rfl, hb⟩))
        all_goals (try go_wp2_with fail)
        refine hK.out _ _ ?_ (fun hH2 => ?_)
        · first | exact bstep hHeld hb | exact hHeld.trans hb | exact hHeld
        clear hK K hHeld; (have hHeld := hH2); clear hH2; (try simp only [pz])
        refine tkN 14 (some 6) rfl ?_; (try simp only [pz])
        refine tkN 15 (some 7) rfl ?_; (try simp only [pz])
        refine wpAnyH_done (by kernel_rfl) ?_ _; (try simp only [pz])
        go_wp2_with fail
        go_meet
        exact ⟨rfl, rfl, cell_later hHeld m0, cell_later hHeld m1, cell_later hHeld m2, cell_later hHeld m3, cell_later hHeld m4, cell_later hHeld m5, cell_later hHeld m6, cell_later hHeld m7, cell_later hHeld m8, frozen_later hHeld m8 n0, cell_later hHeld m9, frozen_later hHeld m9 n1, bstep HBT.out hHeld, (by have := hHeld.size; omega)⟩
      case rest =>
        obtain ⟨rfl, rfl, m0, m1, m2, m3, m4, m5, m6, m7, m8, n0, m9, n1, kB, kz⟩ := hcut
        have zT2 : w.heap.size + 1 + 1 < wc.heap.size := by omega
        have zT1 : w.heap.size + 1 < wc.heap.size := by omega
        have zT0 : w.heap.size < wc.heap.size := by omega
        go_wp2_with (go_at_call 111; (with_reducible refine (KR.out _).mono ?_); rintro e w9 ⟨rfl, hb⟩; obtain ⟨hc, hf⟩ := bcell hb; have hz9 := hb.size; have zU2 : w.heap.size + 1 + 1 < w9.heap.size := (by omega))
        simp [bodyPost, results, Tryz.results96, go_sem, *]
        all_goals exact bwz
    · have e1 : n9 = a9 := by rw [en]; (repeat' split) <;> omega
      have e2 : m9 = a9 + b9 := by rw [em]; (repeat' split) <;> omega
      rw [e1, e2] at KR
      clear en em e1 e2
      have x1 : max a9 (-a9) = a9 := by omega
      have x2 : max (a9 - b9) (b9 - a9) = a9 + b9 := by omega
      have x3 : max (-a9) a9 = a9 := by omega
      have x4 : max (b9 - a9) (a9 - b9) = a9 + b9 := by omega
      have y1 : ¬ 0 < a9 := by omega
      have y2 : 0 < b9 := by omega
      have y3 : ¬ b9 < 0 := by omega
      have y4 : (b9 == 0) = false := beq_eq_false_iff_ne.2 (by omega)
      have yk : (a9 == 0) = true := by rw [k0]; rfl
      have yl : ¬ a9 < 0 := by omega
      clear k0
      go_enter Tryz.func96, Tryz.ntmps96
      go_upto_region 3 with (first | (go_at_call 82; (with_reducible refine (KS.out _).mono ?_); rintro e w9 ⟨rfl, hb⟩; obtain ⟨hc, hf⟩ := bcell hb; have hz := hb.size; have z0 : w.heap.size < w9.heap.size := (by first | omega | (simp at hz; omega)); have z1 : w.heap.size + 1 < w9.heap.size := (by first | omega | (simp at hz; omega)); have z2 : w.heap.size + 1 + 1 < w9.heap.size := (by first | omega | (simp at hz; omega))) | (go_at_call 82; (with_reducible refine (KL.out _).mono ?_); rintro e w9 ⟨rfl, hb⟩; obtain ⟨hc, hf⟩ := bcell hb; have hz := hb.size; have z0 : w.heap.size < w9.heap.size := (by first | omega | (simp at hz; omega)); have z1 : w.heap.size + 1 < w9.heap.size := (by first | omega | (simp at hz; omega)); have z2 : w.heap.size + 1 + 1 < w9.heap.size := (by first | omega | (simp at hz; omega))))
      go_cut [6, 7] (fun s6 s7 W => s6 = .int .i64 a9 ∧ s7 = .int .i64 b9 ∧ W.cell? ⟨w.heap.size, 0, none⟩ = some (.int .i64 px) ∧ W.cell? ⟨w.heap.size, 1, none⟩ = some (.int .i64 py) ∧ W.cell? ⟨w.heap.size, 2, none⟩ = some (.int .i64 qx) ∧ W.cell? ⟨w.heap.size, 3, none⟩ = some (.int .i64 qy) ∧ W.cell? ⟨w.heap.size + 1, 0, none⟩ = some (.int .i64 ax) ∧ W.cell? ⟨w.heap.size + 1, 1, none⟩ = some (.int .i64 ay) ∧ W.cell? ⟨w.heap.size + 1, 2, none⟩ = some (.int .i64 bx) ∧ W.cell? ⟨w.heap.size + 1, 3, none⟩ = some (.int .i64 bY) ∧ W.cell? ⟨w.heap.size + 2, 0, none⟩ = some (.int .i64 0) ∧ W.frozen? ⟨w.heap.size + 2, 0, none⟩ = false ∧ W.cell? ⟨w.heap.size + 2, 1, none⟩ = some (.int .i64 0) ∧ W.frozen? ⟨w.heap.size + 2, 1, none⟩ = false ∧ Below w.heap.size w W ∧ w.heap.size + 3 ≤ W.heap.size)
      case first =>
        obtain ⟨wT, hT⟩ : ∃ W : World, W = w9 := ⟨_, rfl⟩
        have m0 : w9.cell? ⟨w.heap.size, 0, none⟩ = some (.int .i64 px) := by go_simp
        have m1 : w9.cell? ⟨w.heap.size, 1, none⟩ = some (.int .i64 py) := by go_simp
        have m2 : w9.cell? ⟨w.heap.size, 2, none⟩ = some (.int .i64 qx) := by go_simp
        have m3 : w9.cell? ⟨w.heap.size, 3, none⟩ = some (.int .i64 qy) := by go_simp
        have m4 : w9.cell? ⟨w.heap.size + 1, 0, none⟩ = some (.int .i64 ax) := by go_simp
        have m5 : w9.cell? ⟨w.heap.size + 1, 1, none⟩ = some (.int .i64 ay) := by go_simp
        have m6 : w9.cell? ⟨w.heap.size + 1, 2, none⟩ = some (.int .i64 bx) := by go_simp
        have m7 : w9.cell? ⟨w.heap.size + 1, 3, none⟩ = some (.int .i64 bY) := by go_simp
        have m8 : w9.cell? ⟨w.heap.size + 1 + 1, 0, none⟩ = some (.int .i64 0) := by go_simp
        have m9 : w9.cell? ⟨w.heap.size + 1 + 1, 1, none⟩ = some (.int .i64 0) := by go_simp
        have n0 : w9.frozen? ⟨w.heap.size + 1 + 1, 0, none⟩ = false := by go_simp
        have n1 : w9.frozen? ⟨w.heap.size + 1 + 1, 1, none⟩ = false := by go_simp
        have HBT := hide (show Below w.heap.size w w9 from bwz)
        have zT2 : w.heap.size + 1 + 1 < w9.heap.size := World.block_lt_of_cell? _ _ m8
        rw [← hT] at *
        clear hT hc hf hb
        have zT1 : w.heap.size + 1 < wT.heap.size := by omega
        have zT0 : w.heap.size < wT.heap.size := by omega
        refine wp_region_held_drew (S := fun W => Below wT.heap.size wT W) (by kernel_rfl) (Below.drew (Below.refl _ _)) (fun hHeld => ?_)
        refine tkN 0 (some 17) rfl ?_; (try simp only [pz])
        refine tkL 1 (some 18) rfl ?_; (try simp only [pz])
        refine tkN 2 (some 19) rfl ?_; (try simp only [pz])
        refine tkL 3 (some 20) rfl ?_; (try simp only [pz])
        refine tkN 4 (some 21) rfl ?_; (try simp only [pz])
        refine tkL 5 (some 22) rfl ?_; (try simp only [pz])
        refine tkN 7 (some 24) rfl ?_; (try simp only [pz])
        refine tkL 8 (some 25) rfl ?_; (try simp only [pz])
        refine tkN 9 (some 26) rfl ?_; (try simp only [pz])
        refine tkL 10 (some 27) rfl ?_; (try simp only [pz])
        refine tkN 11 (some 28) rfl ?_; (try simp only [pz])
        refine tkL 12 (some 29) rfl ?_; (try simp only [pz])
        refine wpAnyH_ready (rs := [6]) (by kernel_rfl) (by simp) ?_; refine (AllReadyH.cons (o := ⟨some 23, _, _, _, _, _⟩) rfl (fun K hK => ?_) AllReadyH.nil)
        go_simp; (first | (go_at_call 110; (with_reducible refine (K1.out _).mono ?_); rintro e w9 ⟨rfl, hb⟩) | (go_at_call 110; (with_reducible refine (K2.out _).mono ?_); rintro e w9 ⟨rfl, hb⟩))
        all_goals (try go_wp2_with fail)
        refine hK.out _ _ ?_ (fun hH2 => ?_)
        · first | exact bstep hHeld hb | exact hHeld.trans hb | exact hHeld
        clear hK K hHeld; (have hHeld := hH2); clear hH2; (try simp only [pz])
        refine wpAnyH_ready (rs := [13]) (by kernel_rfl) (by simp) ?_; refine (AllReadyH.cons (o := ⟨some 30, _, _, _, _, _⟩) rfl (fun K hK => ?_) AllReadyH.nil)
        go_simp; (first | (go_at_call 110; (with_reducible refine (K1.out _).mono ?_); rintro e w9 ⟨rfl, hb⟩) | (go_at_call 110; (with_reducible refine (K2.out _).mono ?_); rintro e w9 ⟨rfl, hb⟩))
        all_goals (try go_wp2_with fail)
        refine hK.out _ _ ?_ (fun hH2 => ?_)
        · first | exact bstep hHeld hb | exact hHeld.trans hb | exact hHeld
        clear hK K hHeld; (have hHeld := hH2); clear hH2; (try simp only [pz])
        refine tkN 14 (some 6) rfl ?_; (try simp only [pz])
        refine tkN 15 (some 7) rfl ?_; (try simp only [pz])
        refine wpAnyH_done (by kernel_rfl) ?_ _; (try simp only [pz])
        go_wp2_with fail
        go_meet
        exact ⟨rfl, rfl, cell_later hHeld m0, cell_later hHeld m1, cell_later hHeld m2, cell_later hHeld m3, cell_later hHeld m4, cell_later hHeld m5, cell_later hHeld m6, cell_later hHeld m7, cell_later hHeld m8, frozen_later hHeld m8 n0, cell_later hHeld m9, frozen_later hHeld m9 n1, bstep HBT.out hHeld, (by have := hHeld.size; omega)⟩
      case rest =>
        obtain ⟨rfl, rfl, m0, m1, m2, m3, m4, m5, m6, m7, m8, n0, m9, n1, kB, kz⟩ := hcut
        have zT2 : w.heap.size + 1 + 1 < wc.heap.size := by omega
        have zT1 : w.heap.size + 1 < wc.heap.size := by omega
        have zT0 : w.heap.size < wc.heap.size := by omega
        go_wp2_with (go_at_call 111; (with_reducible refine (KR.out _).mono ?_); rintro e w9 ⟨rfl, hb⟩; obtain ⟨hc, hf⟩ := bcell hb; have hz9 := hb.size; have zU2 : w.heap.size + 1 + 1 < w9.heap.size := (by omega))
        simp [bodyPost, results, Tryz.results96, go_sem, *]
        all_goals exact bwz
  · rcases Int.lt_or_eq_of_le p2 with k0 | k0
    · have e1 : n9 = a9 := by rw [en]; (repeat' split) <;> omega
      have e2 : m9 = a9 + -b9 := by rw [em]; (repeat' split) <;> omega
      rw [e1, e2] at KR
      clear en em e1 e2
      have x1 : max a9 (-a9) = a9 := by omega
      have x2 : max (a9 - b9) (b9 - a9) = a9 + -b9 := by omega
      have x3 : max (-a9) a9 = a9 := by omega
      have x4 : max (b9 - a9) (a9 - b9) = a9 + -b9 := by omega
      have y1 : 0 < a9 := by omega
      have y2 : ¬ 0 < b9 := by omega
      have y3 : ¬ a9 < 0 := by omega
      have y4 : (a9 == 0) = false := beq_eq_false_iff_ne.2 (by omega)
      have yk : (b9 == 0) = false := beq_eq_false_iff_ne.2 (by omega)
      have yl : b9 < 0 := by omega
      clear k0
      go_enter Tryz.func96, Tryz.ntmps96
      go_upto_region 3 with (first | (go_at_call 82; (with_reducible refine (KS.out _).mono ?_); rintro e w9 ⟨rfl, hb⟩; obtain ⟨hc, hf⟩ := bcell hb; have hz := hb.size; have z0 : w.heap.size < w9.heap.size := (by first | omega | (simp at hz; omega)); have z1 : w.heap.size + 1 < w9.heap.size := (by first | omega | (simp at hz; omega)); have z2 : w.heap.size + 1 + 1 < w9.heap.size := (by first | omega | (simp at hz; omega))) | (go_at_call 82; (with_reducible refine (KL.out _).mono ?_); rintro e w9 ⟨rfl, hb⟩; obtain ⟨hc, hf⟩ := bcell hb; have hz := hb.size; have z0 : w.heap.size < w9.heap.size := (by first | omega | (simp at hz; omega)); have z1 : w.heap.size + 1 < w9.heap.size := (by first | omega | (simp at hz; omega)); have z2 : w.heap.size + 1 + 1 < w9.heap.size := (by first | omega | (simp at hz; omega))))
      go_cut [6, 7] (fun s6 s7 W => s6 = .int .i64 a9 ∧ s7 = .int .i64 b9 ∧ W.cell? ⟨w.heap.size, 0, none⟩ = some (.int .i64 px) ∧ W.cell? ⟨w.heap.size, 1, none⟩ = some (.int .i64 py) ∧ W.cell? ⟨w.heap.size, 2, none⟩ = some (.int .i64 qx) ∧ W.cell? ⟨w.heap.size, 3, none⟩ = some (.int .i64 qy) ∧ W.cell? ⟨w.heap.size + 1, 0, none⟩ = some (.int .i64 ax) ∧ W.cell? ⟨w.heap.size + 1, 1, none⟩ = some (.int .i64 ay) ∧ W.cell? ⟨w.heap.size + 1, 2, none⟩ = some (.int .i64 bx) ∧ W.cell? ⟨w.heap.size + 1, 3, none⟩ = some (.int .i64 bY) ∧ W.cell? ⟨w.heap.size + 2, 0, none⟩ = some (.int .i64 0) ∧ W.frozen? ⟨w.heap.size + 2, 0, none⟩ = false ∧ W.cell? ⟨w.heap.size + 2, 1, none⟩ = some (.int .i64 0) ∧ W.frozen? ⟨w.heap.size + 2, 1, none⟩ = false ∧ Below w.heap.size w W ∧ w.heap.size + 3 ≤ W.heap.size)
      case first =>
        obtain ⟨wT, hT⟩ : ∃ W : World, W = w9 := ⟨_, rfl⟩
        have m0 : w9.cell? ⟨w.heap.size, 0, none⟩ = some (.int .i64 px) := by go_simp
        have m1 : w9.cell? ⟨w.heap.size, 1, none⟩ = some (.int .i64 py) := by go_simp
        have m2 : w9.cell? ⟨w.heap.size, 2, none⟩ = some (.int .i64 qx) := by go_simp
        have m3 : w9.cell? ⟨w.heap.size, 3, none⟩ = some (.int .i64 qy) := by go_simp
        have m4 : w9.cell? ⟨w.heap.size + 1, 0, none⟩ = some (.int .i64 ax) := by go_simp
        have m5 : w9.cell? ⟨w.heap.size + 1, 1, none⟩ = some (.int .i64 ay) := by go_simp
        have m6 : w9.cell? ⟨w.heap.size + 1, 2, none⟩ = some (.int .i64 bx) := by go_simp
        have m7 : w9.cell? ⟨w.heap.size + 1, 3, none⟩ = some (.int .i64 bY) := by go_simp
        have m8 : w9.cell? ⟨w.heap.size + 1 + 1, 0, none⟩ = some (.int .i64 0) := by go_simp
        have m9 : w9.cell? ⟨w.heap.size + 1 + 1, 1, none⟩ = some (.int .i64 0) := by go_simp
        have n0 : w9.frozen? ⟨w.heap.size + 1 + 1, 0, none⟩ = false := by go_simp
        have n1 : w9.frozen? ⟨w.heap.size + 1 + 1, 1, none⟩ = false := by go_simp
        have HBT := hide (show Below w.heap.size w w9 from bwz)
        have zT2 : w.heap.size + 1 + 1 < w9.heap.size := World.block_lt_of_cell? _ _ m8
        rw [← hT] at *
        clear hT hc hf hb
        have zT1 : w.heap.size + 1 < wT.heap.size := by omega
        have zT0 : w.heap.size < wT.heap.size := by omega
        refine wp_region_held_drew (S := fun W => Below wT.heap.size wT W) (by kernel_rfl) (Below.drew (Below.refl _ _)) (fun hHeld => ?_)
        refine tkN 0 (some 17) rfl ?_; (try simp only [pz])
        refine tkL 1 (some 18) rfl ?_; (try simp only [pz])
        refine tkN 2 (some 19) rfl ?_; (try simp only [pz])
        refine tkL 3 (some 20) rfl ?_; (try simp only [pz])
        refine tkN 4 (some 21) rfl ?_; (try simp only [pz])
        refine tkL 5 (some 22) rfl ?_; (try simp only [pz])
        refine tkN 7 (some 24) rfl ?_; (try simp only [pz])
        refine tkL 8 (some 25) rfl ?_; (try simp only [pz])
        refine tkN 9 (some 26) rfl ?_; (try simp only [pz])
        refine tkL 10 (some 27) rfl ?_; (try simp only [pz])
        refine tkN 11 (some 28) rfl ?_; (try simp only [pz])
        refine tkL 12 (some 29) rfl ?_; (try simp only [pz])
        refine wpAnyH_ready (rs := [6]) (by kernel_rfl) (by simp) ?_; refine (AllReadyH.cons (o := ⟨some 23, _, _, _, _, _⟩) rfl (fun K hK => ?_) AllReadyH.nil)
        go_simp; (first | (go_at_call 110; (with_reducible refine (K1.out _).mono ?_); rintro e w9 ⟨rfl, hb⟩) | (go_at_call 110; (with_reducible refine (K2.out _).mono ?_); rintro e w9 ⟨rfl, hb⟩))
        all_goals (try go_wp2_with fail)
        refine hK.out _ _ ?_ (fun hH2 => ?_)
        · first | exact bstep hHeld hb | exact hHeld.trans hb | exact hHeld
        clear hK K hHeld; (have hHeld := hH2); clear hH2; (try simp only [pz])
        refine wpAnyH_ready (rs := [13]) (by kernel_rfl) (by simp) ?_; refine (AllReadyH.cons (o := ⟨some 30, _, _, _, _, _⟩) rfl (fun K hK => ?_) AllReadyH.nil)
        go_simp; (first | (go_at_call 110; (with_reducible refine (K1.out _).mono ?_); rintro e w9 ⟨rfl, hb⟩) | (go_at_call 110; (with_reducible refine (K2.out _).mono ?_); rintro e w9 ⟨rfl, hb⟩))
        all_goals (try go_wp2_with fail)
        refine hK.out _ _ ?_ (fun hH2 => ?_)
        · first | exact bstep hHeld hb | exact hHeld.trans hb | exact hHeld
        clear hK K hHeld; (have hHeld := hH2); clear hH2; (try simp only [pz])
        refine tkN 14 (some 6) rfl ?_; (try simp only [pz])
        refine tkN 15 (some 7) rfl ?_; (try simp only [pz])
        refine wpAnyH_done (by kernel_rfl) ?_ _; (try simp only [pz])
        go_wp2_with fail
        go_meet
        exact ⟨rfl, rfl, cell_later hHeld m0, cell_later hHeld m1, cell_later hHeld m2, cell_later hHeld m3, cell_later hHeld m4, cell_later hHeld m5, cell_later hHeld m6, cell_later hHeld m7, cell_later hHeld m8, frozen_later hHeld m8 n0, cell_later hHeld m9, frozen_later hHeld m9 n1, bstep HBT.out hHeld, (by have := hHeld.size; omega)⟩
      case rest =>
        obtain ⟨rfl, rfl, m0, m1, m2, m3, m4, m5, m6, m7, m8, n0, m9, n1, kB, kz⟩ := hcut
        have zT2 : w.heap.size + 1 + 1 < wc.heap.size := by omega
        have zT1 : w.heap.size + 1 < wc.heap.size := by omega
        have zT0 : w.heap.size < wc.heap.size := by omega
        go_wp2_with (go_at_call 111; (with_reducible refine (KR.out _).mono ?_); rintro e w9 ⟨rfl, hb⟩; obtain ⟨hc, hf⟩ := bcell hb; have hz9 := hb.size; have zU2 : w.heap.size + 1 + 1 < w9.heap.size := (by omega))
        simp [bodyPost, results, Tryz.results96, go_sem, *]
        all_goals exact bwz
    · have e1 : n9 = a9 := by rw [en]; (repeat' split) <;> omega
      have e2 : m9 = a9 + b9 := by rw [em]; (repeat' split) <;> omega
      rw [e1, e2] at KR
      clear en em e1 e2
      have x1 : max a9 (-a9) = a9 := by omega
      have x2 : max (a9 - b9) (b9 - a9) = a9 + b9 := by omega
      have x3 : max (-a9) a9 = a9 := by omega
      have x4 : max (b9 - a9) (a9 - b9) = a9 + b9 := by omega
      have y1 : 0 < a9 := by omega
      have y2 : ¬ 0 < b9 := by omega
      have y3 : ¬ a9 < 0 := by omega
      have y4 : (a9 == 0) = false := beq_eq_false_iff_ne.2 (by omega)
      have yk : (b9 == 0) = true := by rw [k0]; rfl
      have yl : ¬ b9 < 0 := by omega
      clear k0
      go_enter Tryz.func96, Tryz.ntmps96
      go_upto_region 3 with (first | (go_at_call 82; (with_reducible refine (KS.out _).mono ?_); rintro e w9 ⟨rfl, hb⟩; obtain ⟨hc, hf⟩ := bcell hb; have hz := hb.size; have z0 : w.heap.size < w9.heap.size := (by first | omega | (simp at hz; omega)); have z1 : w.heap.size + 1 < w9.heap.size := (by first | omega | (simp at hz; omega)); have z2 : w.heap.size + 1 + 1 < w9.heap.size := (by first | omega | (simp at hz; omega))) | (go_at_call 82; (with_reducible refine (KL.out _).mono ?_); rintro e w9 ⟨rfl, hb⟩; obtain ⟨hc, hf⟩ := bcell hb; have hz := hb.size; have z0 : w.heap.size < w9.heap.size := (by first | omega | (simp at hz; omega)); have z1 : w.heap.size + 1 < w9.heap.size := (by first | omega | (simp at hz; omega)); have z2 : w.heap.size + 1 + 1 < w9.heap.size := (by first | omega | (simp at hz; omega))))
      go_cut [6, 7] (fun s6 s7 W => s6 = .int .i64 a9 ∧ s7 = .int .i64 b9 ∧ W.cell? ⟨w.heap.size, 0, none⟩ = some (.int .i64 px) ∧ W.cell? ⟨w.heap.size, 1, none⟩ = some (.int .i64 py) ∧ W.cell? ⟨w.heap.size, 2, none⟩ = some (.int .i64 qx) ∧ W.cell? ⟨w.heap.size, 3, none⟩ = some (.int .i64 qy) ∧ W.cell? ⟨w.heap.size + 1, 0, none⟩ = some (.int .i64 ax) ∧ W.cell? ⟨w.heap.size + 1, 1, none⟩ = some (.int .i64 ay) ∧ W.cell? ⟨w.heap.size + 1, 2, none⟩ = some (.int .i64 bx) ∧ W.cell? ⟨w.heap.size + 1, 3, none⟩ = some (.int .i64 bY) ∧ W.cell? ⟨w.heap.size + 2, 0, none⟩ = some (.int .i64 0) ∧ W.frozen? ⟨w.heap.size + 2, 0, none⟩ = false ∧ W.cell? ⟨w.heap.size + 2, 1, none⟩ = some (.int .i64 0) ∧ W.frozen? ⟨w.heap.size + 2, 1, none⟩ = false ∧ Below w.heap.size w W ∧ w.heap.size + 3 ≤ W.heap.size)
      case first =>
        obtain ⟨wT, hT⟩ : ∃ W : World, W = w9 := ⟨_, rfl⟩
        have m0 : w9.cell? ⟨w.heap.size, 0, none⟩ = some (.int .i64 px) := by go_simp
        have m1 : w9.cell? ⟨w.heap.size, 1, none⟩ = some (.int .i64 py) := by go_simp
        have m2 : w9.cell? ⟨w.heap.size, 2, none⟩ = some (.int .i64 qx) := by go_simp
        have m3 : w9.cell? ⟨w.heap.size, 3, none⟩ = some (.int .i64 qy) := by go_simp
        have m4 : w9.cell? ⟨w.heap.size + 1, 0, none⟩ = some (.int .i64 ax) := by go_simp
        have m5 : w9.cell? ⟨w.heap.size + 1, 1, none⟩ = some (.int .i64 ay) := by go_simp
        have m6 : w9.cell? ⟨w.heap.size + 1, 2, none⟩ = some (.int .i64 bx) := by go_simp
        have m7 : w9.cell? ⟨w.heap.size + 1, 3, none⟩ = some (.int .i64 bY) := by go_simp
        have m8 : w9.cell? ⟨w.heap.size + 1 + 1, 0, none⟩ = some (.int .i64 0) := by go_simp
        have m9 : w9.cell? ⟨w.heap.size + 1 + 1, 1, none⟩ = some (.int .i64 0) := by go_simp
        have n0 : w9.frozen? ⟨w.heap.size + 1 + 1, 0, none⟩ = false := by go_simp
        have n1 : w9.frozen? ⟨w.heap.size + 1 + 1, 1, none⟩ = false := by go_simp
        have HBT := hide (show Below w.heap.size w w9 from bwz)
        have zT2 : w.heap.size + 1 + 1 < w9.heap.size := World.block_lt_of_cell? _ _ m8
        rw [← hT] at *
        clear hT hc hf hb
        have zT1 : w.heap.size + 1 < wT.heap.size := by omega
        have zT0 : w.heap.size < wT.heap.size := by omega
        refine wp_region_held_drew (S := fun W => Below wT.heap.size wT W) (by kernel_rfl) (Below.drew (Below.refl _ _)) (fun hHeld => ?_)
        refine tkN 0 (some 17) rfl ?_; (try simp only [pz])
        refine tkL 1 (some 18) rfl ?_; (try simp only [pz])
        refine tkN 2 (some 19) rfl ?_; (try simp only [pz])
        refine tkL 3 (some 20) rfl ?_; (try simp only [pz])
        refine tkN 4 (some 21) rfl ?_; (try simp only [pz])
        refine tkL 5 (some 22) rfl ?_; (try simp only [pz])
        refine tkN 7 (some 24) rfl ?_; (try simp only [pz])
        refine tkL 8 (some 25) rfl ?_; (try simp only [pz])
        refine tkN 9 (some 26) rfl ?_; (try simp only [pz])
        refine tkL 10 (some 27) rfl ?_; (try simp only [pz])
        refine tkN 11 (some 28) rfl ?_; (try simp only [pz])
        refine tkL 12 (some 29) rfl ?_; (try simp only [pz])
        refine wpAnyH_ready (rs := [6]) (by kernel_rfl) (by simp) ?_; refine (AllReadyH.cons (o := ⟨some 23, _, _, _, _, _⟩) rfl (fun K hK => ?_) AllReadyH.nil)
        go_simp; (first | (go_at_call 110; (with_reducible refine (K1.out _).mono ?_); rintro e w9 ⟨rfl, hb⟩) | (go_at_call 110; (with_reducible refine (K2.out _).mono ?_); rintro e w9 ⟨rfl, hb⟩))
        all_goals (try go_wp2_with fail)
        refine hK.out _ _ ?_ (fun hH2 => ?_)
        · first | exact bstep hHeld hb | exact hHeld.trans hb | exact hHeld
        clear hK K hHeld; (have hHeld := hH2); clear hH2; (try simp only [pz])
        refine wpAnyH_ready (rs := [13]) (by kernel_rfl) (by simp) ?_; refine (AllReadyH.cons (o := ⟨some 30, _, _, _, _, _⟩) rfl (fun K hK => ?_) AllReadyH.nil)
        go_simp; (first | (go_at_call 110; (with_reducible refine (K1.out _).mono ?_); rintro e w9 ⟨rfl, hb⟩) | (go_at_call 110; (with_reducible refine (K2.out _).mono ?_); rintro e w9 ⟨rfl, hb⟩))
        all_goals (try go_wp2_with fail)
        refine hK.out _ _ ?_ (fun hH2 => ?_)
        · first | exact bstep hHeld hb | exact hHeld.trans hb | exact hHeld
        clear hK K hHeld; (have hHeld := hH2); clear hH2; (try simp only [pz])
        refine tkN 14 (some 6) rfl ?_; (try simp only [pz])
        refine tkN 15 (some 7) rfl ?_; (try simp only [pz])
        refine wpAnyH_done (by kernel_rfl) ?_ _; (try simp only [pz])
        go_wp2_with fail
        go_meet
        exact ⟨rfl, rfl, cell_later hHeld m0, cell_later hHeld m1, cell_later hHeld m2, cell_later hHeld m3, cell_later hHeld m4, cell_later hHeld m5, cell_later hHeld m6, cell_later hHeld m7, cell_later hHeld m8, frozen_later hHeld m8 n0, cell_later hHeld m9, frozen_later hHeld m9 n1, bstep HBT.out hHeld, (by have := hHeld.size; omega)⟩
      case rest =>
        obtain ⟨rfl, rfl, m0, m1, m2, m3, m4, m5, m6, m7, m8, n0, m9, n1, kB, kz⟩ := hcut
        have zT2 : w.heap.size + 1 + 1 < wc.heap.size := by omega
        have zT1 : w.heap.size + 1 < wc.heap.size := by omega
        have zT0 : w.heap.size < wc.heap.size := by omega
        go_wp2_with (go_at_call 111; (with_reducible refine (KR.out _).mono ?_); rintro e w9 ⟨rfl, hb⟩; obtain ⟨hc, hf⟩ := bcell hb; have hz9 := hb.size; have zU2 : w.heap.size + 1 + 1 < w9.heap.size := (by omega))
        simp [bodyPost, results, Tryz.results96, go_sem, *]
        all_goals exact bwz
set_option maxRecDepth 100000 in
set_option maxHeartbeats 8000000 in
theorem spec_l02Place_ok (ax ay bx bY px py qx qy : Int) (hl : isSg ax ay bx bY = true) (hp : isPt px py = true) (hq : isPt qx qy = true) (hw : ¬ wayI ax ay bx bY px py qx qy = 0) (w : World) :
    Calls Tryz.prog 87 #[.agg #[.int .i64 px, .int .i64 py, .int .i64 qx, .int .i64 qy], .agg #[.int .i64 ax, .int .i64 ay, .int .i64 bx, .int .i64 bY]] w fun e w' => e = .returned (.tuple #[.agg #[.int .i64 (cpN (crs ax ay bx bY px py) (crs ax ay bx bY qx qy)), .int .i64 (cpD (crs ax ay bx bY px py) (crs ax ay bx bY qx qy))], .bool true]) ∧ Below w.heap.size w w' := by
  obtain ⟨ha, hb, _⟩ := isSg_t hl
  obtain ⟨s1, s2⟩ := pt_sm ha
  obtain ⟨s3, s4⟩ := pt_sm hb
  obtain ⟨s5, s6⟩ := pt_sm hp
  obtain ⟨s7, s8⟩ := pt_sm hq
  obtain ⟨c0, c1, c2, c3⟩ := cp_pre hl hp hq
  have hd := way_den hw
  have hcs : (crs ax ay bx bY px py ≤ 0 ∧ 0 < crs ax ay bx bY qx qy) ∨ (0 < crs ax ay bx bY px py ∧ crs ax ay bx bY qx qy ≤ 0) := by
    rcases wayI_cases ax ay bx bY px py qx qy with h1 | ⟨_, h1, h2⟩ | ⟨_, h1, h2⟩
    · exact absurd h1 hw
    · exact .inl ⟨h1, h2⟩
    · exact .inr ⟨h1, h2⟩
  have KM := hide (fun W => spec_l01Minus bx bY ax ay s3 s4 s1 s2 W)
  have KN1 := hide (fun W => spec_l01Minus px py ax ay s5 s6 s1 s2 W)
  have KN2 := hide (fun W => spec_l01Minus qx qy ax ay s7 s8 s1 s2 W)
  have K1 := fun W => (show (bx - ax) * (py - ay) - (bY - ay) * (px - ax) = crs ax ay bx bY px py from rfl) ▸ spec_l01Cross (bx - ax) (bY - ay) (px - ax) (py - ay) (sm_mul s3 s1 s6 s2) (sm_mul s4 s2 s5 s1) W
  have K2 := fun W => (show (bx - ax) * (qy - ay) - (bY - ay) * (qx - ax) = crs ax ay bx bY qx qy from rfl) ▸ spec_l01Cross (bx - ax) (bY - ay) (qx - ax) (qy - ay) (sm_mul s3 s1 s8 s2) (sm_mul s4 s2 s7 s1) W
  have KR := fun W => spec_l02Ratio (absI (crs ax ay bx bY px py)) (absI (crs ax ay bx bY px py) + absI (crs ax ay bx bY qx qy)) (absI_nn _) (by unfold absI; split <;> omega) hd (by unfold absI; split <;> split <;> omega) W
  unfold cpN cpD
  generalize crs ax ay bx bY px py = a9 at *
  generalize crs ax ay bx bY qx qy = b9 at *
  obtain ⟨n9, hn9⟩ : ∃ n, n = absI a9 := ⟨_, rfl⟩
  obtain ⟨m9, hm9⟩ : ∃ m, m = absI a9 + absI b9 := ⟨_, rfl⟩
  have en : n9 = if a9 < 0 then -a9 else a9 := hn9
  have em : m9 = (if a9 < 0 then -a9 else a9) + (if b9 < 0 then -b9 else b9) := hm9
  rw [← hm9, ← hn9] at KR ⊢
  generalize n9 / gdI n9 m9 = r9 at *
  generalize m9 / gdI n9 m9 = t9 at *
  have K1 := hide K1
  have K2 := hide K2
  have KR := hide KR
  clear hn9 hm9 s1 s2 s3 s4 s5 s6 s7 s8 ha hb hp hq hl hw hd
  rcases hcs with ⟨p1, p2⟩ | ⟨p1, p2⟩
  · rcases Int.lt_or_eq_of_le p1 with k0 | k0
    · have e1 : n9 = -a9 := by rw [en]; (repeat' split) <;> omega
      have e2 : m9 = -a9 + b9 := by rw [em]; (repeat' split) <;> omega
      rw [e1, e2] at KR
      clear en em e1 e2
      have y1 : ¬ 0 < a9 := by omega
      have y2 : 0 < b9 := by omega
      have y3 : ¬ b9 < 0 := by omega
      have y4 : (b9 == 0) = false := beq_eq_false_iff_ne.2 (by omega)
      have yk : (a9 == 0) = false := beq_eq_false_iff_ne.2 (by omega)
      have yl : a9 < 0 := by omega
      have y5 : sgn b9 = 1 := by unfold sgn; rw [if_pos y2]
      have y6 : sgn a9 = -1 := by unfold sgn; rw [if_neg y1, if_pos yl]
      clear k0
      go_enter Tryz.func87, Tryz.ntmps87
      go_upto_region 1 with fail
      go_cut [6] (fun s6 W => s6 = .int .i64 a9 ∧ W.cell? ⟨w.heap.size, 0, none⟩ = some (.int .i64 px) ∧ W.cell? ⟨w.heap.size, 1, none⟩ = some (.int .i64 py) ∧ W.cell? ⟨w.heap.size, 2, none⟩ = some (.int .i64 qx) ∧ W.cell? ⟨w.heap.size, 3, none⟩ = some (.int .i64 qy) ∧ W.cell? ⟨w.heap.size + 1, 0, none⟩ = some (.int .i64 ax) ∧ W.cell? ⟨w.heap.size + 1, 1, none⟩ = some (.int .i64 ay) ∧ W.cell? ⟨w.heap.size + 1, 2, none⟩ = some (.int .i64 bx) ∧ W.cell? ⟨w.heap.size + 1, 3, none⟩ = some (.int .i64 bY) ∧ W.cell? ⟨w.heap.size + 2, 0, none⟩ = some (.int .i64 0) ∧ W.frozen? ⟨w.heap.size + 2, 0, none⟩ = false ∧ W.cell? ⟨w.heap.size + 2, 1, none⟩ = some (.int .i64 0) ∧ W.frozen? ⟨w.heap.size + 2, 1, none⟩ = false ∧ Below w.heap.size w W ∧ w.heap.size + 3 ≤ W.heap.size)
      case first =>
        obtain ⟨wT, hT⟩ : ∃ W, W = (((w.alloc (.cells #[.int .i64 px, .int .i64 py, .int .i64 qx, .int .i64 qy] 129)).alloc (.cells #[.int .i64 ax, .int .i64 ay, .int .i64 bx, .int .i64 bY] 129)).alloc (.cells #[.int .i64 0, .int .i64 0] 100)) := ⟨_, rfl⟩
        have m0 : wT.cell? ⟨w.heap.size, 0, none⟩ = some (.int .i64 px) := by rw [hT]; go_simp
        have m1 : wT.cell? ⟨w.heap.size, 1, none⟩ = some (.int .i64 py) := by rw [hT]; go_simp
        have m2 : wT.cell? ⟨w.heap.size, 2, none⟩ = some (.int .i64 qx) := by rw [hT]; go_simp
        have m3 : wT.cell? ⟨w.heap.size, 3, none⟩ = some (.int .i64 qy) := by rw [hT]; go_simp
        have m4 : wT.cell? ⟨w.heap.size + 1, 0, none⟩ = some (.int .i64 ax) := by rw [hT]; go_simp
        have m5 : wT.cell? ⟨w.heap.size + 1, 1, none⟩ = some (.int .i64 ay) := by rw [hT]; go_simp
        have m6 : wT.cell? ⟨w.heap.size + 1, 2, none⟩ = some (.int .i64 bx) := by rw [hT]; go_simp
        have m7 : wT.cell? ⟨w.heap.size + 1, 3, none⟩ = some (.int .i64 bY) := by rw [hT]; go_simp
        have m8 : wT.cell? ⟨w.heap.size + 1 + 1, 0, none⟩ = some (.int .i64 0) := by rw [hT]; go_simp
        have m9 : wT.cell? ⟨w.heap.size + 1 + 1, 1, none⟩ = some (.int .i64 0) := by rw [hT]; go_simp
        have n0 : wT.frozen? ⟨w.heap.size + 1 + 1, 0, none⟩ = false := by rw [hT]; go_simp
        have n1 : wT.frozen? ⟨w.heap.size + 1 + 1, 1, none⟩ = false := by rw [hT]; go_simp
        have HBT := hide (show Below w.heap.size w wT by rw [hT]; exact bwz)
        have zT2 : w.heap.size + 1 + 1 < wT.heap.size := World.block_lt_of_cell? _ _ m8
        rw [← hT]
        clear hT
        have zT1 : w.heap.size + 1 < wT.heap.size := by omega
        have zT0 : w.heap.size < wT.heap.size := by omega
        refine wp_region_held_drew (S := fun W => Below wT.heap.size wT W) (by kernel_rfl) (Below.drew (Below.refl _ _)) (fun hHeld => ?_)
        refine tkN 0 (some 8) rfl ?_; (try simp only [pz])
        refine tkL 1 (some 9) rfl ?_; (try simp only [pz])
        refine tkN 2 (some 10) rfl ?_; (try simp only [pz])
        refine tkL 3 (some 11) rfl ?_; (try simp only [pz])
        refine tkN 5 (some 13) rfl ?_; (try simp only [pz])
        refine tkL 6 (some 14) rfl ?_; (try simp only [pz])
        refine tkN 7 (some 15) rfl ?_; (try simp only [pz])
        refine tkL 8 (some 16) rfl ?_; (try simp only [pz])
        refine wpAnyH_ready (rs := [4]) (by kernel_rfl) (by simp) ?_; refine (AllReadyH.cons (o := ⟨some 12, _, _, _, _, _⟩) rfl (fun K hK => ?_) AllReadyH.nil)
        go_simp; (first | (go_at_call 69; (with_reducible refine (KM.out _).mono ?_); rintro e w9 ⟨rfl, hb⟩) | (go_at_call 69; (with_reducible refine (KN1.out _).mono ?_); rintro e w9 ⟨rfl, hb⟩) | (go_at_call 102; (with_reducible refine (K1.out _).mono ?_); rintro e w9 ⟨rfl, hb⟩))
        all_goals (try go_wp2_with fail)
        refine hK.out _ _ ?_ (fun hH2 => ?_)
        · first | exact bstep hHeld hb | exact hHeld.trans hb | exact hHeld
        clear hK K hHeld; (have hHeld := hH2); clear hH2; (try simp only [pz])
        refine wpAnyH_ready (rs := [9]) (by kernel_rfl) (by simp) ?_; refine (AllReadyH.cons (o := ⟨some 17, _, _, _, _, _⟩) rfl (fun K hK => ?_) AllReadyH.nil)
        go_simp; (first | (go_at_call 69; (with_reducible refine (KM.out _).mono ?_); rintro e w9 ⟨rfl, hb⟩) | (go_at_call 69; (with_reducible refine (KN1.out _).mono ?_); rintro e w9 ⟨rfl, hb⟩) | (go_at_call 102; (with_reducible refine (K1.out _).mono ?_); rintro e w9 ⟨rfl, hb⟩))
        all_goals (try go_wp2_with fail)
        refine hK.out _ _ ?_ (fun hH2 => ?_)
        · first | exact bstep hHeld hb | exact hHeld.trans hb | exact hHeld
        clear hK K hHeld; (have hHeld := hH2); clear hH2; (try simp only [pz])
        refine wpAnyH_ready (rs := [10]) (by kernel_rfl) (by simp) ?_; refine (AllReadyH.cons (o := ⟨some 18, _, _, _, _, _⟩) rfl (fun K hK => ?_) AllReadyH.nil)
        go_simp; (first | (go_at_call 69; (with_reducible refine (KM.out _).mono ?_); rintro e w9 ⟨rfl, hb⟩) | (go_at_call 69; (with_reducible refine (KN1.out _).mono ?_); rintro e w9 ⟨rfl, hb⟩) | (go_at_call 102; (with_reducible refine (K1.out _).mono ?_); rintro e w9 ⟨rfl, hb⟩))
        all_goals (try go_wp2_with fail)
        refine hK.out _ _ ?_ (fun hH2 => ?_)
        · first | exact bstep hHeld hb | exact hHeld.trans hb | exact hHeld
        clear hK K hHeld; (have hHeld := hH2); clear hH2; (try simp only [pz])
        refine tkN 11 (some 6) rfl ?_; (try simp only [pz])
        refine wpAnyH_done (by kernel_rfl) ?_ _; (try simp only [pz])
        go_wp2_with fail
        go_meet
        exact ⟨rfl, cell_later hHeld m0, cell_later hHeld m1, cell_later hHeld m2, cell_later hHeld m3, cell_later hHeld m4, cell_later hHeld m5, cell_later hHeld m6, cell_later hHeld m7, cell_later hHeld m8, frozen_later hHeld m8 n0, cell_later hHeld m9, frozen_later hHeld m9 n1, bstep HBT.out hHeld, (by have := hHeld.size; omega)⟩
      case rest =>
        obtain ⟨rfl, m0, m1, m2, m3, m4, m5, m6, m7, m8, n0, m9, n1, kB, kz⟩ := hcut
        obtain ⟨wS, rfl⟩ : ∃ W : World, W = wc := ⟨_, rfl⟩
        have HBT := hide kB
        have zT2 : w.heap.size + 1 + 1 < wS.heap.size := by omega
        have zT1 : w.heap.size + 1 < wS.heap.size := by omega
        have zT0 : w.heap.size < wS.heap.size := by omega
        clear kB kz
        go_upto_region 2 with fail
        go_cut [7] (fun s6 W => s6 = .int .i64 b9 ∧ W.cell? ⟨w.heap.size, 0, none⟩ = some (.int .i64 px) ∧ W.cell? ⟨w.heap.size, 1, none⟩ = some (.int .i64 py) ∧ W.cell? ⟨w.heap.size, 2, none⟩ = some (.int .i64 qx) ∧ W.cell? ⟨w.heap.size, 3, none⟩ = some (.int .i64 qy) ∧ W.cell? ⟨w.heap.size + 1, 0, none⟩ = some (.int .i64 ax) ∧ W.cell? ⟨w.heap.size + 1, 1, none⟩ = some (.int .i64 ay) ∧ W.cell? ⟨w.heap.size + 1, 2, none⟩ = some (.int .i64 bx) ∧ W.cell? ⟨w.heap.size + 1, 3, none⟩ = some (.int .i64 bY) ∧ W.cell? ⟨w.heap.size + 2, 0, none⟩ = some (.int .i64 0) ∧ W.frozen? ⟨w.heap.size + 2, 0, none⟩ = false ∧ W.cell? ⟨w.heap.size + 2, 1, none⟩ = some (.int .i64 0) ∧ W.frozen? ⟨w.heap.size + 2, 1, none⟩ = false ∧ Below w.heap.size w W ∧ w.heap.size + 3 ≤ W.heap.size)
        case first =>
          refine wp_region_held_drew (S := fun W => Below wS.heap.size wS W) (by kernel_rfl) (Below.drew (Below.refl _ _)) (fun hHeld => ?_)
          refine tkN 0 (some 19) rfl ?_; (try simp only [pz])
          refine tkL 1 (some 20) rfl ?_; (try simp only [pz])
          refine tkN 2 (some 21) rfl ?_; (try simp only [pz])
          refine tkL 3 (some 22) rfl ?_; (try simp only [pz])
          refine tkN 5 (some 24) rfl ?_; (try simp only [pz])
          refine tkL 6 (some 25) rfl ?_; (try simp only [pz])
          refine tkN 7 (some 26) rfl ?_; (try simp only [pz])
          refine tkL 8 (some 27) rfl ?_; (try simp only [pz])
          refine wpAnyH_ready (rs := [4]) (by kernel_rfl) (by simp) ?_; refine (AllReadyH.cons (o := ⟨some 23, _, _, _, _, _⟩) rfl (fun K hK => ?_) AllReadyH.nil)
          go_simp; (first | (go_at_call 69; (with_reducible refine (KM.out _).mono ?_); rintro e w9 ⟨rfl, hb⟩) | (go_at_call 69; (with_reducible refine (KN2.out _).mono ?_); rintro e w9 ⟨rfl, hb⟩) | (go_at_call 102; (with_reducible refine (K2.out _).mono ?_); rintro e w9 ⟨rfl, hb⟩))
          all_goals (try go_wp2_with fail)
          refine hK.out _ _ ?_ (fun hH2 => ?_)
          · first | exact bstep hHeld hb | exact hHeld.trans hb | exact hHeld
          clear hK K hHeld; (have hHeld := hH2); clear hH2; (try simp only [pz])
          refine wpAnyH_ready (rs := [9]) (by kernel_rfl) (by simp) ?_; refine (AllReadyH.cons (o := ⟨some 28, _, _, _, _, _⟩) rfl (fun K hK => ?_) AllReadyH.nil)
          go_simp; (first | (go_at_call 69; (with_reducible refine (KM.out _).mono ?_); rintro e w9 ⟨rfl, hb⟩) | (go_at_call 69; (with_reducible refine (KN2.out _).mono ?_); rintro e w9 ⟨rfl, hb⟩) | (go_at_call 102; (with_reducible refine (K2.out _).mono ?_); rintro e w9 ⟨rfl, hb⟩))
          all_goals (try go_wp2_with fail)
          refine hK.out _ _ ?_ (fun hH2 => ?_)
          · first | exact bstep hHeld hb | exact hHeld.trans hb | exact hHeld
          clear hK K hHeld; (have hHeld := hH2); clear hH2; (try simp only [pz])
          refine wpAnyH_ready (rs := [10]) (by kernel_rfl) (by simp) ?_; refine (AllReadyH.cons (o := ⟨some 29, _, _, _, _, _⟩) rfl (fun K hK => ?_) AllReadyH.nil)
          go_simp; (first | (go_at_call 69; (with_reducible refine (KM.out _).mono ?_); rintro e w9 ⟨rfl, hb⟩) | (go_at_call 69; (with_reducible refine (KN2.out _).mono ?_); rintro e w9 ⟨rfl, hb⟩) | (go_at_call 102; (with_reducible refine (K2.out _).mono ?_); rintro e w9 ⟨rfl, hb⟩))
          all_goals (try go_wp2_with fail)
          refine hK.out _ _ ?_ (fun hH2 => ?_)
          · first | exact bstep hHeld hb | exact hHeld.trans hb | exact hHeld
          clear hK K hHeld; (have hHeld := hH2); clear hH2; (try simp only [pz])
          refine tkN 11 (some 7) rfl ?_; (try simp only [pz])
          refine wpAnyH_done (by kernel_rfl) ?_ _; (try simp only [pz])
          go_wp2_with fail
          go_meet
          exact ⟨rfl, cell_later hHeld m0, cell_later hHeld m1, cell_later hHeld m2, cell_later hHeld m3, cell_later hHeld m4, cell_later hHeld m5, cell_later hHeld m6, cell_later hHeld m7, cell_later hHeld m8, frozen_later hHeld m8 n0, cell_later hHeld m9, frozen_later hHeld m9 n1, bstep HBT.out hHeld, (by have := hHeld.size; omega)⟩
        case rest =>
          obtain ⟨rfl, m0, m1, m2, m3, m4, m5, m6, m7, m8, n0, m9, n1, kB, kz⟩ := hcut
          obtain ⟨wR, rfl⟩ : ∃ W : World, W = wc := ⟨_, rfl⟩
          have HBT := hide kB
          have zT2 : w.heap.size + 1 + 1 < wR.heap.size := by omega
          have zT1 : w.heap.size + 1 < wR.heap.size := by omega
          have zT0 : w.heap.size < wR.heap.size := by omega
          clear kB kz
          have kB := HBT.out
          go_wp2_with (first | (go_at_call 103; (with_reducible refine (spec_l01Sign _ _).mono ?_); rintro e w9 ⟨rfl, rfl⟩) | (go_at_call 104; (with_reducible refine (KR.out _).mono ?_); rintro e w9 ⟨rfl, hb⟩; obtain ⟨hc, hf⟩ := bcell hb; have hz9 := hb.size; have zU2 : w.heap.size + 1 + 1 < w9.heap.size := (by omega)))
          simp [bodyPost, results, Tryz.results87, go_sem, *]
          all_goals exact bwz
    · have e1 : n9 = a9 := by rw [en]; (repeat' split) <;> omega
      have e2 : m9 = a9 + b9 := by rw [em]; (repeat' split) <;> omega
      rw [e1, e2] at KR
      clear en em e1 e2
      have y1 : ¬ 0 < a9 := by omega
      have y2 : 0 < b9 := by omega
      have y3 : ¬ b9 < 0 := by omega
      have y4 : (b9 == 0) = false := beq_eq_false_iff_ne.2 (by omega)
      have yk : (a9 == 0) = true := by rw [k0]; rfl
      have yl : ¬ a9 < 0 := by omega
      have y5 : sgn b9 = 1 := by unfold sgn; rw [if_pos y2]
      have y6 : sgn a9 = 0 := by unfold sgn; rw [if_neg y1, if_neg yl]
      clear k0
      go_enter Tryz.func87, Tryz.ntmps87
      go_upto_region 1 with fail
      go_cut [6] (fun s6 W => s6 = .int .i64 a9 ∧ W.cell? ⟨w.heap.size, 0, none⟩ = some (.int .i64 px) ∧ W.cell? ⟨w.heap.size, 1, none⟩ = some (.int .i64 py) ∧ W.cell? ⟨w.heap.size, 2, none⟩ = some (.int .i64 qx) ∧ W.cell? ⟨w.heap.size, 3, none⟩ = some (.int .i64 qy) ∧ W.cell? ⟨w.heap.size + 1, 0, none⟩ = some (.int .i64 ax) ∧ W.cell? ⟨w.heap.size + 1, 1, none⟩ = some (.int .i64 ay) ∧ W.cell? ⟨w.heap.size + 1, 2, none⟩ = some (.int .i64 bx) ∧ W.cell? ⟨w.heap.size + 1, 3, none⟩ = some (.int .i64 bY) ∧ W.cell? ⟨w.heap.size + 2, 0, none⟩ = some (.int .i64 0) ∧ W.frozen? ⟨w.heap.size + 2, 0, none⟩ = false ∧ W.cell? ⟨w.heap.size + 2, 1, none⟩ = some (.int .i64 0) ∧ W.frozen? ⟨w.heap.size + 2, 1, none⟩ = false ∧ Below w.heap.size w W ∧ w.heap.size + 3 ≤ W.heap.size)
      case first =>
        obtain ⟨wT, hT⟩ : ∃ W, W = (((w.alloc (.cells #[.int .i64 px, .int .i64 py, .int .i64 qx, .int .i64 qy] 129)).alloc (.cells #[.int .i64 ax, .int .i64 ay, .int .i64 bx, .int .i64 bY] 129)).alloc (.cells #[.int .i64 0, .int .i64 0] 100)) := ⟨_, rfl⟩
        have m0 : wT.cell? ⟨w.heap.size, 0, none⟩ = some (.int .i64 px) := by rw [hT]; go_simp
        have m1 : wT.cell? ⟨w.heap.size, 1, none⟩ = some (.int .i64 py) := by rw [hT]; go_simp
        have m2 : wT.cell? ⟨w.heap.size, 2, none⟩ = some (.int .i64 qx) := by rw [hT]; go_simp
        have m3 : wT.cell? ⟨w.heap.size, 3, none⟩ = some (.int .i64 qy) := by rw [hT]; go_simp
        have m4 : wT.cell? ⟨w.heap.size + 1, 0, none⟩ = some (.int .i64 ax) := by rw [hT]; go_simp
        have m5 : wT.cell? ⟨w.heap.size + 1, 1, none⟩ = some (.int .i64 ay) := by rw [hT]; go_simp
        have m6 : wT.cell? ⟨w.heap.size + 1, 2, none⟩ = some (.int .i64 bx) := by rw [hT]; go_simp
        have m7 : wT.cell? ⟨w.heap.size + 1, 3, none⟩ = some (.int .i64 bY) := by rw [hT]; go_simp
        have m8 : wT.cell? ⟨w.heap.size + 1 + 1, 0, none⟩ = some (.int .i64 0) := by rw [hT]; go_simp
        have m9 : wT.cell? ⟨w.heap.size + 1 + 1, 1, none⟩ = some (.int .i64 0) := by rw [hT]; go_simp
        have n0 : wT.frozen? ⟨w.heap.size + 1 + 1, 0, none⟩ = false := by rw [hT]; go_simp
        have n1 : wT.frozen? ⟨w.heap.size + 1 + 1, 1, none⟩ = false := by rw [hT]; go_simp
        have HBT := hide (show Below w.heap.size w wT by rw [hT]; exact bwz)
        have zT2 : w.heap.size + 1 + 1 < wT.heap.size := World.block_lt_of_cell? _ _ m8
        rw [← hT]
        clear hT
        have zT1 : w.heap.size + 1 < wT.heap.size := by omega
        have zT0 : w.heap.size < wT.heap.size := by omega
        refine wp_region_held_drew (S := fun W => Below wT.heap.size wT W) (by kernel_rfl) (Below.drew (Below.refl _ _)) (fun hHeld => ?_)
        refine tkN 0 (some 8) rfl ?_; (try simp only [pz])
        refine tkL 1 (some 9) rfl ?_; (try simp only [pz])
        refine tkN 2 (some 10) rfl ?_; (try simp only [pz])
        refine tkL 3 (some 11) rfl ?_; (try simp only [pz])
        refine tkN 5 (some 13) rfl ?_; (try simp only [pz])
        refine tkL 6 (some 14) rfl ?_; (try simp only [pz])
        refine tkN 7 (some 15) rfl ?_; (try simp only [pz])
        refine tkL 8 (some 16) rfl ?_; (try simp only [pz])
        refine wpAnyH_ready (rs := [4]) (by kernel_rfl) (by simp) ?_; refine (AllReadyH.cons (o := ⟨some 12, _, _, _, _, _⟩) rfl (fun K hK => ?_) AllReadyH.nil)
        go_simp; (first | (go_at_call 69; (with_reducible refine (KM.out _).mono ?_); rintro e w9 ⟨rfl, hb⟩) | (go_at_call 69; (with_reducible refine (KN1.out _).mono ?_); rintro e w9 ⟨rfl, hb⟩) | (go_at_call 102; (with_reducible refine (K1.out _).mono ?_); rintro e w9 ⟨rfl, hb⟩))
        all_goals (try go_wp2_with fail)
        refine hK.out _ _ ?_ (fun hH2 => ?_)
        · first | exact bstep hHeld hb | exact hHeld.trans hb | exact hHeld
        clear hK K hHeld; (have hHeld := hH2); clear hH2; (try simp only [pz])
        refine wpAnyH_ready (rs := [9]) (by kernel_rfl) (by simp) ?_; refine (AllReadyH.cons (o := ⟨some 17, _, _, _, _, _⟩) rfl (fun K hK => ?_) AllReadyH.nil)
        go_simp; (first | (go_at_call 69; (with_reducible refine (KM.out _).mono ?_); rintro e w9 ⟨rfl, hb⟩) | (go_at_call 69; (with_reducible refine (KN1.out _).mono ?_); rintro e w9 ⟨rfl, hb⟩) | (go_at_call 102; (with_reducible refine (K1.out _).mono ?_); rintro e w9 ⟨rfl, hb⟩))
        all_goals (try go_wp2_with fail)
        refine hK.out _ _ ?_ (fun hH2 => ?_)
        · first | exact bstep hHeld hb | exact hHeld.trans hb | exact hHeld
        clear hK K hHeld; (have hHeld := hH2); clear hH2; (try simp only [pz])
        refine wpAnyH_ready (rs := [10]) (by kernel_rfl) (by simp) ?_; refine (AllReadyH.cons (o := ⟨some 18, _, _, _, _, _⟩) rfl (fun K hK => ?_) AllReadyH.nil)
        go_simp; (first | (go_at_call 69; (with_reducible refine (KM.out _).mono ?_); rintro e w9 ⟨rfl, hb⟩) | (go_at_call 69; (with_reducible refine (KN1.out _).mono ?_); rintro e w9 ⟨rfl, hb⟩) | (go_at_call 102; (with_reducible refine (K1.out _).mono ?_); rintro e w9 ⟨rfl, hb⟩))
        all_goals (try go_wp2_with fail)
        refine hK.out _ _ ?_ (fun hH2 => ?_)
        · first | exact bstep hHeld hb | exact hHeld.trans hb | exact hHeld
        clear hK K hHeld; (have hHeld := hH2); clear hH2; (try simp only [pz])
        refine tkN 11 (some 6) rfl ?_; (try simp only [pz])
        refine wpAnyH_done (by kernel_rfl) ?_ _; (try simp only [pz])
        go_wp2_with fail
        go_meet
        exact ⟨rfl, cell_later hHeld m0, cell_later hHeld m1, cell_later hHeld m2, cell_later hHeld m3, cell_later hHeld m4, cell_later hHeld m5, cell_later hHeld m6, cell_later hHeld m7, cell_later hHeld m8, frozen_later hHeld m8 n0, cell_later hHeld m9, frozen_later hHeld m9 n1, bstep HBT.out hHeld, (by have := hHeld.size; omega)⟩
      case rest =>
        obtain ⟨rfl, m0, m1, m2, m3, m4, m5, m6, m7, m8, n0, m9, n1, kB, kz⟩ := hcut
        obtain ⟨wS, rfl⟩ : ∃ W : World, W = wc := ⟨_, rfl⟩
        have HBT := hide kB
        have zT2 : w.heap.size + 1 + 1 < wS.heap.size := by omega
        have zT1 : w.heap.size + 1 < wS.heap.size := by omega
        have zT0 : w.heap.size < wS.heap.size := by omega
        clear kB kz
        go_upto_region 2 with fail
        go_cut [7] (fun s6 W => s6 = .int .i64 b9 ∧ W.cell? ⟨w.heap.size, 0, none⟩ = some (.int .i64 px) ∧ W.cell? ⟨w.heap.size, 1, none⟩ = some (.int .i64 py) ∧ W.cell? ⟨w.heap.size, 2, none⟩ = some (.int .i64 qx) ∧ W.cell? ⟨w.heap.size, 3, none⟩ = some (.int .i64 qy) ∧ W.cell? ⟨w.heap.size + 1, 0, none⟩ = some (.int .i64 ax) ∧ W.cell? ⟨w.heap.size + 1, 1, none⟩ = some (.int .i64 ay) ∧ W.cell? ⟨w.heap.size + 1, 2, none⟩ = some (.int .i64 bx) ∧ W.cell? ⟨w.heap.size + 1, 3, none⟩ = some (.int .i64 bY) ∧ W.cell? ⟨w.heap.size + 2, 0, none⟩ = some (.int .i64 0) ∧ W.frozen? ⟨w.heap.size + 2, 0, none⟩ = false ∧ W.cell? ⟨w.heap.size + 2, 1, none⟩ = some (.int .i64 0) ∧ W.frozen? ⟨w.heap.size + 2, 1, none⟩ = false ∧ Below w.heap.size w W ∧ w.heap.size + 3 ≤ W.heap.size)
        case first =>
          refine wp_region_held_drew (S := fun W => Below wS.heap.size wS W) (by kernel_rfl) (Below.drew (Below.refl _ _)) (fun hHeld => ?_)
          refine tkN 0 (some 19) rfl ?_; (try simp only [pz])
          refine tkL 1 (some 20) rfl ?_; (try simp only [pz])
          refine tkN 2 (some 21) rfl ?_; (try simp only [pz])
          refine tkL 3 (some 22) rfl ?_; (try simp only [pz])
          refine tkN 5 (some 24) rfl ?_; (try simp only [pz])
          refine tkL 6 (some 25) rfl ?_; (try simp only [pz])
          refine tkN 7 (some 26) rfl ?_; (try simp only [pz])
          refine tkL 8 (some 27) rfl ?_; (try simp only [pz])
          refine wpAnyH_ready (rs := [4]) (by kernel_rfl) (by simp) ?_; refine (AllReadyH.cons (o := ⟨some 23, _, _, _, _, _⟩) rfl (fun K hK => ?_) AllReadyH.nil)
          go_simp; (first | (go_at_call 69; (with_reducible refine (KM.out _).mono ?_); rintro e w9 ⟨rfl, hb⟩) | (go_at_call 69; (with_reducible refine (KN2.out _).mono ?_); rintro e w9 ⟨rfl, hb⟩) | (go_at_call 102; (with_reducible refine (K2.out _).mono ?_); rintro e w9 ⟨rfl, hb⟩))
          all_goals (try go_wp2_with fail)
          refine hK.out _ _ ?_ (fun hH2 => ?_)
          · first | exact bstep hHeld hb | exact hHeld.trans hb | exact hHeld
          clear hK K hHeld; (have hHeld := hH2); clear hH2; (try simp only [pz])
          refine wpAnyH_ready (rs := [9]) (by kernel_rfl) (by simp) ?_; refine (AllReadyH.cons (o := ⟨some 28, _, _, _, _, _⟩) rfl (fun K hK => ?_) AllReadyH.nil)
          go_simp; (first | (go_at_call 69; (with_reducible refine (KM.out _).mono ?_); rintro e w9 ⟨rfl, hb⟩) | (go_at_call 69; (with_reducible refine (KN2.out _).mono ?_); rintro e w9 ⟨rfl, hb⟩) | (go_at_call 102; (with_reducible refine (K2.out _).mono ?_); rintro e w9 ⟨rfl, hb⟩))
          all_goals (try go_wp2_with fail)
          refine hK.out _ _ ?_ (fun hH2 => ?_)
          · first | exact bstep hHeld hb | exact hHeld.trans hb | exact hHeld
          clear hK K hHeld; (have hHeld := hH2); clear hH2; (try simp only [pz])
          refine wpAnyH_ready (rs := [10]) (by kernel_rfl) (by simp) ?_; refine (AllReadyH.cons (o := ⟨some 29, _, _, _, _, _⟩) rfl (fun K hK => ?_) AllReadyH.nil)
          go_simp; (first | (go_at_call 69; (with_reducible refine (KM.out _).mono ?_); rintro e w9 ⟨rfl, hb⟩) | (go_at_call 69; (with_reducible refine (KN2.out _).mono ?_); rintro e w9 ⟨rfl, hb⟩) | (go_at_call 102; (with_reducible refine (K2.out _).mono ?_); rintro e w9 ⟨rfl, hb⟩))
          all_goals (try go_wp2_with fail)
          refine hK.out _ _ ?_ (fun hH2 => ?_)
          · first | exact bstep hHeld hb | exact hHeld.trans hb | exact hHeld
          clear hK K hHeld; (have hHeld := hH2); clear hH2; (try simp only [pz])
          refine tkN 11 (some 7) rfl ?_; (try simp only [pz])
          refine wpAnyH_done (by kernel_rfl) ?_ _; (try simp only [pz])
          go_wp2_with fail
          go_meet
          exact ⟨rfl, cell_later hHeld m0, cell_later hHeld m1, cell_later hHeld m2, cell_later hHeld m3, cell_later hHeld m4, cell_later hHeld m5, cell_later hHeld m6, cell_later hHeld m7, cell_later hHeld m8, frozen_later hHeld m8 n0, cell_later hHeld m9, frozen_later hHeld m9 n1, bstep HBT.out hHeld, (by have := hHeld.size; omega)⟩
        case rest =>
          obtain ⟨rfl, m0, m1, m2, m3, m4, m5, m6, m7, m8, n0, m9, n1, kB, kz⟩ := hcut
          obtain ⟨wR, rfl⟩ : ∃ W : World, W = wc := ⟨_, rfl⟩
          have HBT := hide kB
          have zT2 : w.heap.size + 1 + 1 < wR.heap.size := by omega
          have zT1 : w.heap.size + 1 < wR.heap.size := by omega
          have zT0 : w.heap.size < wR.heap.size := by omega
          clear kB kz
          have kB := HBT.out
          go_wp2_with (first | (go_at_call 103; (with_reducible refine (spec_l01Sign _ _).mono ?_); rintro e w9 ⟨rfl, rfl⟩) | (go_at_call 104; (with_reducible refine (KR.out _).mono ?_); rintro e w9 ⟨rfl, hb⟩; obtain ⟨hc, hf⟩ := bcell hb; have hz9 := hb.size; have zU2 : w.heap.size + 1 + 1 < w9.heap.size := (by omega)))
          simp [bodyPost, results, Tryz.results87, go_sem, *]
          all_goals exact bwz
  · rcases Int.lt_or_eq_of_le p2 with k0 | k0
    · have e1 : n9 = a9 := by rw [en]; (repeat' split) <;> omega
      have e2 : m9 = a9 + -b9 := by rw [em]; (repeat' split) <;> omega
      rw [e1, e2] at KR
      clear en em e1 e2
      have y1 : 0 < a9 := by omega
      have y2 : ¬ 0 < b9 := by omega
      have y3 : ¬ a9 < 0 := by omega
      have y4 : (a9 == 0) = false := beq_eq_false_iff_ne.2 (by omega)
      have yk : (b9 == 0) = false := beq_eq_false_iff_ne.2 (by omega)
      have yl : b9 < 0 := by omega
      have y5 : sgn a9 = 1 := by unfold sgn; rw [if_pos y1]
      have y6 : sgn b9 = -1 := by unfold sgn; rw [if_neg y2, if_pos yl]
      clear k0
      go_enter Tryz.func87, Tryz.ntmps87
      go_upto_region 1 with fail
      go_cut [6] (fun s6 W => s6 = .int .i64 a9 ∧ W.cell? ⟨w.heap.size, 0, none⟩ = some (.int .i64 px) ∧ W.cell? ⟨w.heap.size, 1, none⟩ = some (.int .i64 py) ∧ W.cell? ⟨w.heap.size, 2, none⟩ = some (.int .i64 qx) ∧ W.cell? ⟨w.heap.size, 3, none⟩ = some (.int .i64 qy) ∧ W.cell? ⟨w.heap.size + 1, 0, none⟩ = some (.int .i64 ax) ∧ W.cell? ⟨w.heap.size + 1, 1, none⟩ = some (.int .i64 ay) ∧ W.cell? ⟨w.heap.size + 1, 2, none⟩ = some (.int .i64 bx) ∧ W.cell? ⟨w.heap.size + 1, 3, none⟩ = some (.int .i64 bY) ∧ W.cell? ⟨w.heap.size + 2, 0, none⟩ = some (.int .i64 0) ∧ W.frozen? ⟨w.heap.size + 2, 0, none⟩ = false ∧ W.cell? ⟨w.heap.size + 2, 1, none⟩ = some (.int .i64 0) ∧ W.frozen? ⟨w.heap.size + 2, 1, none⟩ = false ∧ Below w.heap.size w W ∧ w.heap.size + 3 ≤ W.heap.size)
      case first =>
        obtain ⟨wT, hT⟩ : ∃ W, W = (((w.alloc (.cells #[.int .i64 px, .int .i64 py, .int .i64 qx, .int .i64 qy] 129)).alloc (.cells #[.int .i64 ax, .int .i64 ay, .int .i64 bx, .int .i64 bY] 129)).alloc (.cells #[.int .i64 0, .int .i64 0] 100)) := ⟨_, rfl⟩
        have m0 : wT.cell? ⟨w.heap.size, 0, none⟩ = some (.int .i64 px) := by rw [hT]; go_simp
        have m1 : wT.cell? ⟨w.heap.size, 1, none⟩ = some (.int .i64 py) := by rw [hT]; go_simp
        have m2 : wT.cell? ⟨w.heap.size, 2, none⟩ = some (.int .i64 qx) := by rw [hT]; go_simp
        have m3 : wT.cell? ⟨w.heap.size, 3, none⟩ = some (.int .i64 qy) := by rw [hT]; go_simp
        have m4 : wT.cell? ⟨w.heap.size + 1, 0, none⟩ = some (.int .i64 ax) := by rw [hT]; go_simp
        have m5 : wT.cell? ⟨w.heap.size + 1, 1, none⟩ = some (.int .i64 ay) := by rw [hT]; go_simp
        have m6 : wT.cell? ⟨w.heap.size + 1, 2, none⟩ = some (.int .i64 bx) := by rw [hT]; go_simp
        have m7 : wT.cell? ⟨w.heap.size + 1, 3, none⟩ = some (.int .i64 bY) := by rw [hT]; go_simp
        have m8 : wT.cell? ⟨w.heap.size + 1 + 1, 0, none⟩ = some (.int .i64 0) := by rw [hT]; go_simp
        have m9 : wT.cell? ⟨w.heap.size + 1 + 1, 1, none⟩ = some (.int .i64 0) := by rw [hT]; go_simp
        have n0 : wT.frozen? ⟨w.heap.size + 1 + 1, 0, none⟩ = false := by rw [hT]; go_simp
        have n1 : wT.frozen? ⟨w.heap.size + 1 + 1, 1, none⟩ = false := by rw [hT]; go_simp
        have HBT := hide (show Below w.heap.size w wT by rw [hT]; exact bwz)
        have zT2 : w.heap.size + 1 + 1 < wT.heap.size := World.block_lt_of_cell? _ _ m8
        rw [← hT]
        clear hT
        have zT1 : w.heap.size + 1 < wT.heap.size := by omega
        have zT0 : w.heap.size < wT.heap.size := by omega
        refine wp_region_held_drew (S := fun W => Below wT.heap.size wT W) (by kernel_rfl) (Below.drew (Below.refl _ _)) (fun hHeld => ?_)
        refine tkN 0 (some 8) rfl ?_; (try simp only [pz])
        refine tkL 1 (some 9) rfl ?_; (try simp only [pz])
        refine tkN 2 (some 10) rfl ?_; (try simp only [pz])
        refine tkL 3 (some 11) rfl ?_; (try simp only [pz])
        refine tkN 5 (some 13) rfl ?_; (try simp only [pz])
        refine tkL 6 (some 14) rfl ?_; (try simp only [pz])
        refine tkN 7 (some 15) rfl ?_; (try simp only [pz])
        refine tkL 8 (some 16) rfl ?_; (try simp only [pz])
        refine wpAnyH_ready (rs := [4]) (by kernel_rfl) (by simp) ?_; refine (AllReadyH.cons (o := ⟨some 12, _, _, _, _, _⟩) rfl (fun K hK => ?_) AllReadyH.nil)
        go_simp; (first | (go_at_call 69; (with_reducible refine (KM.out _).mono ?_); rintro e w9 ⟨rfl, hb⟩) | (go_at_call 69; (with_reducible refine (KN1.out _).mono ?_); rintro e w9 ⟨rfl, hb⟩) | (go_at_call 102; (with_reducible refine (K1.out _).mono ?_); rintro e w9 ⟨rfl, hb⟩))
        all_goals (try go_wp2_with fail)
        refine hK.out _ _ ?_ (fun hH2 => ?_)
        · first | exact bstep hHeld hb | exact hHeld.trans hb | exact hHeld
        clear hK K hHeld; (have hHeld := hH2); clear hH2; (try simp only [pz])
        refine wpAnyH_ready (rs := [9]) (by kernel_rfl) (by simp) ?_; refine (AllReadyH.cons (o := ⟨some 17, _, _, _, _, _⟩) rfl (fun K hK => ?_) AllReadyH.nil)
        go_simp; (first | (go_at_call 69; (with_reducible refine (KM.out _).mono ?_); rintro e w9 ⟨rfl, hb⟩) | (go_at_call 69; (with_reducible refine (KN1.out _).mono ?_); rintro e w9 ⟨rfl, hb⟩) | (go_at_call 102; (with_reducible refine (K1.out _).mono ?_); rintro e w9 ⟨rfl, hb⟩))
        all_goals (try go_wp2_with fail)
        refine hK.out _ _ ?_ (fun hH2 => ?_)
        · first | exact bstep hHeld hb | exact hHeld.trans hb | exact hHeld
        clear hK K hHeld; (have hHeld := hH2); clear hH2; (try simp only [pz])
        refine wpAnyH_ready (rs := [10]) (by kernel_rfl) (by simp) ?_; refine (AllReadyH.cons (o := ⟨some 18, _, _, _, _, _⟩) rfl (fun K hK => ?_) AllReadyH.nil)
        go_simp; (first | (go_at_call 69; (with_reducible refine (KM.out _).mono ?_); rintro e w9 ⟨rfl, hb⟩) | (go_at_call 69; (with_reducible refine (KN1.out _).mono ?_); rintro e w9 ⟨rfl, hb⟩) | (go_at_call 102; (with_reducible refine (K1.out _).mono ?_); rintro e w9 ⟨rfl, hb⟩))
        all_goals (try go_wp2_with fail)
        refine hK.out _ _ ?_ (fun hH2 => ?_)
        · first | exact bstep hHeld hb | exact hHeld.trans hb | exact hHeld
        clear hK K hHeld; (have hHeld := hH2); clear hH2; (try simp only [pz])
        refine tkN 11 (some 6) rfl ?_; (try simp only [pz])
        refine wpAnyH_done (by kernel_rfl) ?_ _; (try simp only [pz])
        go_wp2_with fail
        go_meet
        exact ⟨rfl, cell_later hHeld m0, cell_later hHeld m1, cell_later hHeld m2, cell_later hHeld m3, cell_later hHeld m4, cell_later hHeld m5, cell_later hHeld m6, cell_later hHeld m7, cell_later hHeld m8, frozen_later hHeld m8 n0, cell_later hHeld m9, frozen_later hHeld m9 n1, bstep HBT.out hHeld, (by have := hHeld.size; omega)⟩
      case rest =>
        obtain ⟨rfl, m0, m1, m2, m3, m4, m5, m6, m7, m8, n0, m9, n1, kB, kz⟩ := hcut
        obtain ⟨wS, rfl⟩ : ∃ W : World, W = wc := ⟨_, rfl⟩
        have HBT := hide kB
        have zT2 : w.heap.size + 1 + 1 < wS.heap.size := by omega
        have zT1 : w.heap.size + 1 < wS.heap.size := by omega
        have zT0 : w.heap.size < wS.heap.size := by omega
        clear kB kz
        go_upto_region 2 with fail
        go_cut [7] (fun s6 W => s6 = .int .i64 b9 ∧ W.cell? ⟨w.heap.size, 0, none⟩ = some (.int .i64 px) ∧ W.cell? ⟨w.heap.size, 1, none⟩ = some (.int .i64 py) ∧ W.cell? ⟨w.heap.size, 2, none⟩ = some (.int .i64 qx) ∧ W.cell? ⟨w.heap.size, 3, none⟩ = some (.int .i64 qy) ∧ W.cell? ⟨w.heap.size + 1, 0, none⟩ = some (.int .i64 ax) ∧ W.cell? ⟨w.heap.size + 1, 1, none⟩ = some (.int .i64 ay) ∧ W.cell? ⟨w.heap.size + 1, 2, none⟩ = some (.int .i64 bx) ∧ W.cell? ⟨w.heap.size + 1, 3, none⟩ = some (.int .i64 bY) ∧ W.cell? ⟨w.heap.size + 2, 0, none⟩ = some (.int .i64 0) ∧ W.frozen? ⟨w.heap.size + 2, 0, none⟩ = false ∧ W.cell? ⟨w.heap.size + 2, 1, none⟩ = some (.int .i64 0) ∧ W.frozen? ⟨w.heap.size + 2, 1, none⟩ = false ∧ Below w.heap.size w W ∧ w.heap.size + 3 ≤ W.heap.size)
        case first =>
          refine wp_region_held_drew (S := fun W => Below wS.heap.size wS W) (by kernel_rfl) (Below.drew (Below.refl _ _)) (fun hHeld => ?_)
          refine tkN 0 (some 19) rfl ?_; (try simp only [pz])
          refine tkL 1 (some 20) rfl ?_; (try simp only [pz])
          refine tkN 2 (some 21) rfl ?_; (try simp only [pz])
          refine tkL 3 (some 22) rfl ?_; (try simp only [pz])
          refine tkN 5 (some 24) rfl ?_; (try simp only [pz])
          refine tkL 6 (some 25) rfl ?_; (try simp only [pz])
          refine tkN 7 (some 26) rfl ?_; (try simp only [pz])
          refine tkL 8 (some 27) rfl ?_; (try simp only [pz])
          refine wpAnyH_ready (rs := [4]) (by kernel_rfl) (by simp) ?_; refine (AllReadyH.cons (o := ⟨some 23, _, _, _, _, _⟩) rfl (fun K hK => ?_) AllReadyH.nil)
          go_simp; (first | (go_at_call 69; (with_reducible refine (KM.out _).mono ?_); rintro e w9 ⟨rfl, hb⟩) | (go_at_call 69; (with_reducible refine (KN2.out _).mono ?_); rintro e w9 ⟨rfl, hb⟩) | (go_at_call 102; (with_reducible refine (K2.out _).mono ?_); rintro e w9 ⟨rfl, hb⟩))
          all_goals (try go_wp2_with fail)
          refine hK.out _ _ ?_ (fun hH2 => ?_)
          · first | exact bstep hHeld hb | exact hHeld.trans hb | exact hHeld
          clear hK K hHeld; (have hHeld := hH2); clear hH2; (try simp only [pz])
          refine wpAnyH_ready (rs := [9]) (by kernel_rfl) (by simp) ?_; refine (AllReadyH.cons (o := ⟨some 28, _, _, _, _, _⟩) rfl (fun K hK => ?_) AllReadyH.nil)
          go_simp; (first | (go_at_call 69; (with_reducible refine (KM.out _).mono ?_); rintro e w9 ⟨rfl, hb⟩) | (go_at_call 69; (with_reducible refine (KN2.out _).mono ?_); rintro e w9 ⟨rfl, hb⟩) | (go_at_call 102; (with_reducible refine (K2.out _).mono ?_); rintro e w9 ⟨rfl, hb⟩))
          all_goals (try go_wp2_with fail)
          refine hK.out _ _ ?_ (fun hH2 => ?_)
          · first | exact bstep hHeld hb | exact hHeld.trans hb | exact hHeld
          clear hK K hHeld; (have hHeld := hH2); clear hH2; (try simp only [pz])
          refine wpAnyH_ready (rs := [10]) (by kernel_rfl) (by simp) ?_; refine (AllReadyH.cons (o := ⟨some 29, _, _, _, _, _⟩) rfl (fun K hK => ?_) AllReadyH.nil)
          go_simp; (first | (go_at_call 69; (with_reducible refine (KM.out _).mono ?_); rintro e w9 ⟨rfl, hb⟩) | (go_at_call 69; (with_reducible refine (KN2.out _).mono ?_); rintro e w9 ⟨rfl, hb⟩) | (go_at_call 102; (with_reducible refine (K2.out _).mono ?_); rintro e w9 ⟨rfl, hb⟩))
          all_goals (try go_wp2_with fail)
          refine hK.out _ _ ?_ (fun hH2 => ?_)
          · first | exact bstep hHeld hb | exact hHeld.trans hb | exact hHeld
          clear hK K hHeld; (have hHeld := hH2); clear hH2; (try simp only [pz])
          refine tkN 11 (some 7) rfl ?_; (try simp only [pz])
          refine wpAnyH_done (by kernel_rfl) ?_ _; (try simp only [pz])
          go_wp2_with fail
          go_meet
          exact ⟨rfl, cell_later hHeld m0, cell_later hHeld m1, cell_later hHeld m2, cell_later hHeld m3, cell_later hHeld m4, cell_later hHeld m5, cell_later hHeld m6, cell_later hHeld m7, cell_later hHeld m8, frozen_later hHeld m8 n0, cell_later hHeld m9, frozen_later hHeld m9 n1, bstep HBT.out hHeld, (by have := hHeld.size; omega)⟩
        case rest =>
          obtain ⟨rfl, m0, m1, m2, m3, m4, m5, m6, m7, m8, n0, m9, n1, kB, kz⟩ := hcut
          obtain ⟨wR, rfl⟩ : ∃ W : World, W = wc := ⟨_, rfl⟩
          have HBT := hide kB
          have zT2 : w.heap.size + 1 + 1 < wR.heap.size := by omega
          have zT1 : w.heap.size + 1 < wR.heap.size := by omega
          have zT0 : w.heap.size < wR.heap.size := by omega
          clear kB kz
          have kB := HBT.out
          go_wp2_with (first | (go_at_call 103; (with_reducible refine (spec_l01Sign _ _).mono ?_); rintro e w9 ⟨rfl, rfl⟩) | (go_at_call 104; (with_reducible refine (KR.out _).mono ?_); rintro e w9 ⟨rfl, hb⟩; obtain ⟨hc, hf⟩ := bcell hb; have hz9 := hb.size; have zU2 : w.heap.size + 1 + 1 < w9.heap.size := (by omega)))
          simp [bodyPost, results, Tryz.results87, go_sem, *]
          all_goals exact bwz
    · have e1 : n9 = a9 := by rw [en]; (repeat' split) <;> omega
      have e2 : m9 = a9 + b9 := by rw [em]; (repeat' split) <;> omega
      rw [e1, e2] at KR
      clear en em e1 e2
      have y1 : 0 < a9 := by omega
      have y2 : ¬ 0 < b9 := by omega
      have y3 : ¬ a9 < 0 := by omega
      have y4 : (a9 == 0) = false := beq_eq_false_iff_ne.2 (by omega)
      have yk : (b9 == 0) = true := by rw [k0]; rfl
      have yl : ¬ b9 < 0 := by omega
      have y5 : sgn a9 = 1 := by unfold sgn; rw [if_pos y1]
      have y6 : sgn b9 = 0 := by unfold sgn; rw [if_neg y2, if_neg yl]
      clear k0
      go_enter Tryz.func87, Tryz.ntmps87
      go_upto_region 1 with fail
      go_cut [6] (fun s6 W => s6 = .int .i64 a9 ∧ W.cell? ⟨w.heap.size, 0, none⟩ = some (.int .i64 px) ∧ W.cell? ⟨w.heap.size, 1, none⟩ = some (.int .i64 py) ∧ W.cell? ⟨w.heap.size, 2, none⟩ = some (.int .i64 qx) ∧ W.cell? ⟨w.heap.size, 3, none⟩ = some (.int .i64 qy) ∧ W.cell? ⟨w.heap.size + 1, 0, none⟩ = some (.int .i64 ax) ∧ W.cell? ⟨w.heap.size + 1, 1, none⟩ = some (.int .i64 ay) ∧ W.cell? ⟨w.heap.size + 1, 2, none⟩ = some (.int .i64 bx) ∧ W.cell? ⟨w.heap.size + 1, 3, none⟩ = some (.int .i64 bY) ∧ W.cell? ⟨w.heap.size + 2, 0, none⟩ = some (.int .i64 0) ∧ W.frozen? ⟨w.heap.size + 2, 0, none⟩ = false ∧ W.cell? ⟨w.heap.size + 2, 1, none⟩ = some (.int .i64 0) ∧ W.frozen? ⟨w.heap.size + 2, 1, none⟩ = false ∧ Below w.heap.size w W ∧ w.heap.size + 3 ≤ W.heap.size)
      case first =>
        obtain ⟨wT, hT⟩ : ∃ W, W = (((w.alloc (.cells #[.int .i64 px, .int .i64 py, .int .i64 qx, .int .i64 qy] 129)).alloc (.cells #[.int .i64 ax, .int .i64 ay, .int .i64 bx, .int .i64 bY] 129)).alloc (.cells #[.int .i64 0, .int .i64 0] 100)) := ⟨_, rfl⟩
        have m0 : wT.cell? ⟨w.heap.size, 0, none⟩ = some (.int .i64 px) := by rw [hT]; go_simp
        have m1 : wT.cell? ⟨w.heap.size, 1, none⟩ = some (.int .i64 py) := by rw [hT]; go_simp
        have m2 : wT.cell? ⟨w.heap.size, 2, none⟩ = some (.int .i64 qx) := by rw [hT]; go_simp
        have m3 : wT.cell? ⟨w.heap.size, 3, none⟩ = some (.int .i64 qy) := by rw [hT]; go_simp
        have m4 : wT.cell? ⟨w.heap.size + 1, 0, none⟩ = some (.int .i64 ax) := by rw [hT]; go_simp
        have m5 : wT.cell? ⟨w.heap.size + 1, 1, none⟩ = some (.int .i64 ay) := by rw [hT]; go_simp
        have m6 : wT.cell? ⟨w.heap.size + 1, 2, none⟩ = some (.int .i64 bx) := by rw [hT]; go_simp
        have m7 : wT.cell? ⟨w.heap.size + 1, 3, none⟩ = some (.int .i64 bY) := by rw [hT]; go_simp
        have m8 : wT.cell? ⟨w.heap.size + 1 + 1, 0, none⟩ = some (.int .i64 0) := by rw [hT]; go_simp
        have m9 : wT.cell? ⟨w.heap.size + 1 + 1, 1, none⟩ = some (.int .i64 0) := by rw [hT]; go_simp
        have n0 : wT.frozen? ⟨w.heap.size + 1 + 1, 0, none⟩ = false := by rw [hT]; go_simp
        have n1 : wT.frozen? ⟨w.heap.size + 1 + 1, 1, none⟩ = false := by rw [hT]; go_simp
        have HBT := hide (show Below w.heap.size w wT by rw [hT]; exact bwz)
        have zT2 : w.heap.size + 1 + 1 < wT.heap.size := World.block_lt_of_cell? _ _ m8
        rw [← hT]
        clear hT
        have zT1 : w.heap.size + 1 < wT.heap.size := by omega
        have zT0 : w.heap.size < wT.heap.size := by omega
        refine wp_region_held_drew (S := fun W => Below wT.heap.size wT W) (by kernel_rfl) (Below.drew (Below.refl _ _)) (fun hHeld => ?_)
        refine tkN 0 (some 8) rfl ?_; (try simp only [pz])
        refine tkL 1 (some 9) rfl ?_; (try simp only [pz])
        refine tkN 2 (some 10) rfl ?_; (try simp only [pz])
        refine tkL 3 (some 11) rfl ?_; (try simp only [pz])
        refine tkN 5 (some 13) rfl ?_; (try simp only [pz])
        refine tkL 6 (some 14) rfl ?_; (try simp only [pz])
        refine tkN 7 (some 15) rfl ?_; (try simp only [pz])
        refine tkL 8 (some 16) rfl ?_; (try simp only [pz])
        refine wpAnyH_ready (rs := [4]) (by kernel_rfl) (by simp) ?_; refine (AllReadyH.cons (o := ⟨some 12, _, _, _, _, _⟩) rfl (fun K hK => ?_) AllReadyH.nil)
        go_simp; (first | (go_at_call 69; (with_reducible refine (KM.out _).mono ?_); rintro e w9 ⟨rfl, hb⟩) | (go_at_call 69; (with_reducible refine (KN1.out _).mono ?_); rintro e w9 ⟨rfl, hb⟩) | (go_at_call 102; (with_reducible refine (K1.out _).mono ?_); rintro e w9 ⟨rfl, hb⟩))
        all_goals (try go_wp2_with fail)
        refine hK.out _ _ ?_ (fun hH2 => ?_)
        · first | exact bstep hHeld hb | exact hHeld.trans hb | exact hHeld
        clear hK K hHeld; (have hHeld := hH2); clear hH2; (try simp only [pz])
        refine wpAnyH_ready (rs := [9]) (by kernel_rfl) (by simp) ?_; refine (AllReadyH.cons (o := ⟨some 17, _, _, _, _, _⟩) rfl (fun K hK => ?_) AllReadyH.nil)
        go_simp; (first | (go_at_call 69; (with_reducible refine (KM.out _).mono ?_); rintro e w9 ⟨rfl, hb⟩) | (go_at_call 69; (with_reducible refine (KN1.out _).mono ?_); rintro e w9 ⟨rfl, hb⟩) | (go_at_call 102; (with_reducible refine (K1.out _).mono ?_); rintro e w9 ⟨rfl, hb⟩))
        all_goals (try go_wp2_with fail)
        refine hK.out _ _ ?_ (fun hH2 => ?_)
        · first | exact bstep hHeld hb | exact hHeld.trans hb | exact hHeld
        clear hK K hHeld; (have hHeld := hH2); clear hH2; (try simp only [pz])
        refine wpAnyH_ready (rs := [10]) (by kernel_rfl) (by simp) ?_; refine (AllReadyH.cons (o := ⟨some 18, _, _, _, _, _⟩) rfl (fun K hK => ?_) AllReadyH.nil)
        go_simp; (first | (go_at_call 69; (with_reducible refine (KM.out _).mono ?_); rintro e w9 ⟨rfl, hb⟩) | (go_at_call 69; (with_reducible refine (KN1.out _).mono ?_); rintro e w9 ⟨rfl, hb⟩) | (go_at_call 102; (with_reducible refine (K1.out _).mono ?_); rintro e w9 ⟨rfl, hb⟩))
        all_goals (try go_wp2_with fail)
        refine hK.out _ _ ?_ (fun hH2 => ?_)
        · first | exact bstep hHeld hb | exact hHeld.trans hb | exact hHeld
        clear hK K hHeld; (have hHeld := hH2); clear hH2; (try simp only [pz])
        refine tkN 11 (some 6) rfl ?_; (try simp only [pz])
        refine wpAnyH_done (by kernel_rfl) ?_ _; (try simp only [pz])
        go_wp2_with fail
        go_meet
        exact ⟨rfl, cell_later hHeld m0, cell_later hHeld m1, cell_later hHeld m2, cell_later hHeld m3, cell_later hHeld m4, cell_later hHeld m5, cell_later hHeld m6, cell_later hHeld m7, cell_later hHeld m8, frozen_later hHeld m8 n0, cell_later hHeld m9, frozen_later hHeld m9 n1, bstep HBT.out hHeld, (by have := hHeld.size; omega)⟩
      case rest =>
        obtain ⟨rfl, m0, m1, m2, m3, m4, m5, m6, m7, m8, n0, m9, n1, kB, kz⟩ := hcut
        obtain ⟨wS, rfl⟩ : ∃ W : World, W = wc := ⟨_, rfl⟩
        have HBT := hide kB
        have zT2 : w.heap.size + 1 + 1 < wS.heap.size := by omega
        have zT1 : w.heap.size + 1 < wS.heap.size := by omega
        have zT0 : w.heap.size < wS.heap.size := by omega
        clear kB kz
        go_upto_region 2 with fail
        go_cut [7] (fun s6 W => s6 = .int .i64 b9 ∧ W.cell? ⟨w.heap.size, 0, none⟩ = some (.int .i64 px) ∧ W.cell? ⟨w.heap.size, 1, none⟩ = some (.int .i64 py) ∧ W.cell? ⟨w.heap.size, 2, none⟩ = some (.int .i64 qx) ∧ W.cell? ⟨w.heap.size, 3, none⟩ = some (.int .i64 qy) ∧ W.cell? ⟨w.heap.size + 1, 0, none⟩ = some (.int .i64 ax) ∧ W.cell? ⟨w.heap.size + 1, 1, none⟩ = some (.int .i64 ay) ∧ W.cell? ⟨w.heap.size + 1, 2, none⟩ = some (.int .i64 bx) ∧ W.cell? ⟨w.heap.size + 1, 3, none⟩ = some (.int .i64 bY) ∧ W.cell? ⟨w.heap.size + 2, 0, none⟩ = some (.int .i64 0) ∧ W.frozen? ⟨w.heap.size + 2, 0, none⟩ = false ∧ W.cell? ⟨w.heap.size + 2, 1, none⟩ = some (.int .i64 0) ∧ W.frozen? ⟨w.heap.size + 2, 1, none⟩ = false ∧ Below w.heap.size w W ∧ w.heap.size + 3 ≤ W.heap.size)
        case first =>
          refine wp_region_held_drew (S := fun W => Below wS.heap.size wS W) (by kernel_rfl) (Below.drew (Below.refl _ _)) (fun hHeld => ?_)
          refine tkN 0 (some 19) rfl ?_; (try simp only [pz])
          refine tkL 1 (some 20) rfl ?_; (try simp only [pz])
          refine tkN 2 (some 21) rfl ?_; (try simp only [pz])
          refine tkL 3 (some 22) rfl ?_; (try simp only [pz])
          refine tkN 5 (some 24) rfl ?_; (try simp only [pz])
          refine tkL 6 (some 25) rfl ?_; (try simp only [pz])
          refine tkN 7 (some 26) rfl ?_; (try simp only [pz])
          refine tkL 8 (some 27) rfl ?_; (try simp only [pz])
          refine wpAnyH_ready (rs := [4]) (by kernel_rfl) (by simp) ?_; refine (AllReadyH.cons (o := ⟨some 23, _, _, _, _, _⟩) rfl (fun K hK => ?_) AllReadyH.nil)
          go_simp; (first | (go_at_call 69; (with_reducible refine (KM.out _).mono ?_); rintro e w9 ⟨rfl, hb⟩) | (go_at_call 69; (with_reducible refine (KN2.out _).mono ?_); rintro e w9 ⟨rfl, hb⟩) | (go_at_call 102; (with_reducible refine (K2.out _).mono ?_); rintro e w9 ⟨rfl, hb⟩))
          all_goals (try go_wp2_with fail)
          refine hK.out _ _ ?_ (fun hH2 => ?_)
          · first | exact bstep hHeld hb | exact hHeld.trans hb | exact hHeld
          clear hK K hHeld; (have hHeld := hH2); clear hH2; (try simp only [pz])
          refine wpAnyH_ready (rs := [9]) (by kernel_rfl) (by simp) ?_; refine (AllReadyH.cons (o := ⟨some 28, _, _, _, _, _⟩) rfl (fun K hK => ?_) AllReadyH.nil)
          go_simp; (first | (go_at_call 69; (with_reducible refine (KM.out _).mono ?_); rintro e w9 ⟨rfl, hb⟩) | (go_at_call 69; (with_reducible refine (KN2.out _).mono ?_); rintro e w9 ⟨rfl, hb⟩) | (go_at_call 102; (with_reducible refine (K2.out _).mono ?_); rintro e w9 ⟨rfl, hb⟩))
          all_goals (try go_wp2_with fail)
          refine hK.out _ _ ?_ (fun hH2 => ?_)
          · first | exact bstep hHeld hb | exact hHeld.trans hb | exact hHeld
          clear hK K hHeld; (have hHeld := hH2); clear hH2; (try simp only [pz])
          refine wpAnyH_ready (rs := [10]) (by kernel_rfl) (by simp) ?_; refine (AllReadyH.cons (o := ⟨some 29, _, _, _, _, _⟩) rfl (fun K hK => ?_) AllReadyH.nil)
          go_simp; (first | (go_at_call 69; (with_reducible refine (KM.out _).mono ?_); rintro e w9 ⟨rfl, hb⟩) | (go_at_call 69; (with_reducible refine (KN2.out _).mono ?_); rintro e w9 ⟨rfl, hb⟩) | (go_at_call 102; (with_reducible refine (K2.out _).mono ?_); rintro e w9 ⟨rfl, hb⟩))
          all_goals (try go_wp2_with fail)
          refine hK.out _ _ ?_ (fun hH2 => ?_)
          · first | exact bstep hHeld hb | exact hHeld.trans hb | exact hHeld
          clear hK K hHeld; (have hHeld := hH2); clear hH2; (try simp only [pz])
          refine tkN 11 (some 7) rfl ?_; (try simp only [pz])
          refine wpAnyH_done (by kernel_rfl) ?_ _; (try simp only [pz])
          go_wp2_with fail
          go_meet
          exact ⟨rfl, cell_later hHeld m0, cell_later hHeld m1, cell_later hHeld m2, cell_later hHeld m3, cell_later hHeld m4, cell_later hHeld m5, cell_later hHeld m6, cell_later hHeld m7, cell_later hHeld m8, frozen_later hHeld m8 n0, cell_later hHeld m9, frozen_later hHeld m9 n1, bstep HBT.out hHeld, (by have := hHeld.size; omega)⟩
        case rest =>
          obtain ⟨rfl, m0, m1, m2, m3, m4, m5, m6, m7, m8, n0, m9, n1, kB, kz⟩ := hcut
          obtain ⟨wR, rfl⟩ : ∃ W : World, W = wc := ⟨_, rfl⟩
          have HBT := hide kB
          have zT2 : w.heap.size + 1 + 1 < wR.heap.size := by omega
          have zT1 : w.heap.size + 1 < wR.heap.size := by omega
          have zT0 : w.heap.size < wR.heap.size := by omega
          clear kB kz
          have kB := HBT.out
          go_wp2_with (first | (go_at_call 103; (with_reducible refine (spec_l01Sign _ _).mono ?_); rintro e w9 ⟨rfl, rfl⟩) | (go_at_call 104; (with_reducible refine (KR.out _).mono ?_); rintro e w9 ⟨rfl, hb⟩; obtain ⟨hc, hf⟩ := bcell hb; have hz9 := hb.size; have zU2 : w.heap.size + 1 + 1 < w9.heap.size := (by omega)))
          simp [bodyPost, results, Tryz.results87, go_sem, *]
          all_goals exact bwz
theorem dv_step {q r d m n p c : Int} (hm : 0 < m) (hq : m * q + r = p * d) (hn : n = 1000 * p + c) : m * (1000 * q + (r * 1000 + c * d) / m) + (r * 1000 + c * d) % m = n * d := by
  have e := Int.emod_add_mul_ediv (r * 1000 + c * d) m
  generalize (r * 1000 + c * d) / m = x at *
  generalize (r * 1000 + c * d) % m = y at *
  subst hn
  grind
set_option maxRecDepth 100000 in
set_option maxHeartbeats 8000000 in
theorem spec_l05Divide (n g m : Int) (n0 : 0 ≤ n) (n1 : n ≤ 1000000000) (g0 : 0 ≤ g) (g1 : g ≤ m) (m1 : 1 ≤ m) (m2 : m ≤ 20000000000000) (w : World) :
    Calls Tryz.prog 105 #[.int .i64 n, .agg #[.int .i64 g, .int .i64 m]] w fun e w' => e = .returned (.tuple #[.int .i64 (n * g / m), .int .i64 (n * g % m)]) ∧ Below w.heap.size w w' := by
  have hm0 : (m == 0) = false := beq_eq_false_iff_ne.2 (by omega)
  have hm1 : (m == -1) = false := beq_eq_false_iff_ne.2 (by omega)
  have hfin : ∀ q r : Int, 0 ≤ r → r < m → m * q + r = n * g → q = n * g / m ∧ r = n * g % m := fun q r h1 h2 h3 => by
    rw [← h3, Int.add_comm, Int.add_mul_ediv_left _ _ (by omega), Int.ediv_eq_zero_of_lt h1 h2, Int.add_mul_emod_self_left, Int.emod_eq_of_lt h1 h2]
    exact ⟨by omega, rfl⟩
  have Hfin := hide hfin
  clear hfin
  go_enter Tryz.func105, Tryz.ntmps105
  go_wp2
  go_loopw [6, 7, 8] (fun s6 s7 s8 wr => ∃ (q r sc p : Int), s6 = .int .i64 q ∧ s7 = .int .i64 r ∧ s8 = .int .i64 sc ∧ ((sc = 1000000000 ∧ p = 0) ∨ (sc = 1000000 ∧ p = n / 1000000000) ∨ (sc = 1000 ∧ p = n / 1000000) ∨ (sc = 1 ∧ p = n / 1000) ∨ (sc = 0 ∧ p = n)) ∧ Hid (m * q + r = p * g) ∧ 0 ≤ q ∧ q ≤ p ∧ 0 ≤ r ∧ r < m ∧ wr.cell? ⟨w.heap.size, 0, none⟩ = some (.int .i64 g) ∧ wr.cell? ⟨w.heap.size, 1, none⟩ = some (.int .i64 m) ∧ Below w.heap.size w wr) (fun _ _ s _ => (intOf s).toNat)
  case atStart => exact ⟨0, 0, 1000000000, 0, rfl, rfl, rfl, .inl ⟨rfl, rfl⟩, hide (by omega), by omega, by omega, by omega, by omega, by go_simp, by go_simp, bwz⟩
  case round =>
    obtain ⟨q, r, sc, p, rfl, rfl, rfl, hsc, HQ, q0, q1, r0, r1, c0, c1, hbl⟩ := hrel
    have zr0 : w.heap.size < wr.heap.size := World.block_lt_of_cell? _ _ c0
    rcases hsc with ⟨rfl, rfl⟩ | ⟨rfl, rfl⟩ | ⟨rfl, rfl⟩ | ⟨rfl, rfl⟩ | ⟨rfl, rfl⟩
    · obtain ⟨c, hc⟩ : ∃ c, c = n / 1000000000 % 1000 := ⟨_, rfl⟩
      have hcb : 0 ≤ c ∧ c ≤ 999 := by omega
      have hpc : n / 1000000000 = 1000 * (0) + c := by omega
      obtain ⟨x1, x2⟩ := nn_bd 999 20000000000000 19980000000000000 hcb.1 hcb.2 g0 (by omega) (by decide)
      have hst := hide (dv_step (by omega) HQ.out hpc)
      have y0 : 0 ≤ (r * 1000 + c * g) / m := Int.ediv_nonneg (by omega) (by omega)
      have y1 : 0 ≤ (r * 1000 + c * g) % m := Int.emod_nonneg _ (by omega)
      have y2 : (r * 1000 + c * g) % m < m := Int.emod_lt_of_pos _ (by omega)
      have y3 : (r * 1000 + c * g) / m ≤ r * 1000 + c * g := Int.ediv_le_self _ (by omega)
      have y4 : 1000 * q + (r * 1000 + c * g) / m ≤ n / 1000000000 := by
        have e := hst.out
        have e2 := Int.mul_le_mul_of_nonneg_left g1 (show 0 ≤ n / 1000000000 by omega)
        rw [Int.mul_comm (n / 1000000000) m] at e2
        exact Int.le_of_mul_le_mul_left (by omega) (show 0 < m by omega)
      have en : n / 1000000000 % 1000 = c := hc.symm
      have Hc := hide (And.intro hc hpc)
      clear hc hpc HQ
      go_upto_region 5 with fail
      go_region
      all_goals go_wp2
      all_goals go_roundw
      case rel => exact ⟨1000 * q + (r * 1000 + c * g) / m, (r * 1000 + c * g) % m, 1000000, n / 1000000000, by first | rfl | go_num, by first | rfl | go_num, by first | rfl | go_num, .inr (.inl ⟨rfl, rfl⟩), hst, by omega, y4, y1, y2, by go_simp, by go_simp, bwz⟩
      case measure => simp [intOf]
    · obtain ⟨c, hc⟩ : ∃ c, c = n / 1000000 % 1000 := ⟨_, rfl⟩
      have hcb : 0 ≤ c ∧ c ≤ 999 := by omega
      have hpc : n / 1000000 = 1000 * (n / 1000000000) + c := by omega
      obtain ⟨x1, x2⟩ := nn_bd 999 20000000000000 19980000000000000 hcb.1 hcb.2 g0 (by omega) (by decide)
      have hst := hide (dv_step (by omega) HQ.out hpc)
      have y0 : 0 ≤ (r * 1000 + c * g) / m := Int.ediv_nonneg (by omega) (by omega)
      have y1 : 0 ≤ (r * 1000 + c * g) % m := Int.emod_nonneg _ (by omega)
      have y2 : (r * 1000 + c * g) % m < m := Int.emod_lt_of_pos _ (by omega)
      have y3 : (r * 1000 + c * g) / m ≤ r * 1000 + c * g := Int.ediv_le_self _ (by omega)
      have y4 : 1000 * q + (r * 1000 + c * g) / m ≤ n / 1000000 := by
        have e := hst.out
        have e2 := Int.mul_le_mul_of_nonneg_left g1 (show 0 ≤ n / 1000000 by omega)
        rw [Int.mul_comm (n / 1000000) m] at e2
        exact Int.le_of_mul_le_mul_left (by omega) (show 0 < m by omega)
      have en : n / 1000000 % 1000 = c := hc.symm
      have Hc := hide (And.intro hc hpc)
      clear hc hpc HQ
      go_upto_region 5 with fail
      go_region
      all_goals go_wp2
      all_goals go_roundw
      case rel => exact ⟨1000 * q + (r * 1000 + c * g) / m, (r * 1000 + c * g) % m, 1000, n / 1000000, by first | rfl | go_num, by first | rfl | go_num, by first | rfl | go_num, .inr (.inr (.inl ⟨rfl, rfl⟩)), hst, by omega, y4, y1, y2, by go_simp, by go_simp, bwz⟩
      case measure => simp [intOf]
    · obtain ⟨c, hc⟩ : ∃ c, c = n / 1000 % 1000 := ⟨_, rfl⟩
      have hcb : 0 ≤ c ∧ c ≤ 999 := by omega
      have hpc : n / 1000 = 1000 * (n / 1000000) + c := by omega
      obtain ⟨x1, x2⟩ := nn_bd 999 20000000000000 19980000000000000 hcb.1 hcb.2 g0 (by omega) (by decide)
      have hst := hide (dv_step (by omega) HQ.out hpc)
      have y0 : 0 ≤ (r * 1000 + c * g) / m := Int.ediv_nonneg (by omega) (by omega)
      have y1 : 0 ≤ (r * 1000 + c * g) % m := Int.emod_nonneg _ (by omega)
      have y2 : (r * 1000 + c * g) % m < m := Int.emod_lt_of_pos _ (by omega)
      have y3 : (r * 1000 + c * g) / m ≤ r * 1000 + c * g := Int.ediv_le_self _ (by omega)
      have y4 : 1000 * q + (r * 1000 + c * g) / m ≤ n / 1000 := by
        have e := hst.out
        have e2 := Int.mul_le_mul_of_nonneg_left g1 (show 0 ≤ n / 1000 by omega)
        rw [Int.mul_comm (n / 1000) m] at e2
        exact Int.le_of_mul_le_mul_left (by omega) (show 0 < m by omega)
      have en : n / 1000 % 1000 = c := hc.symm
      have Hc := hide (And.intro hc hpc)
      clear hc hpc HQ
      go_upto_region 5 with fail
      go_region
      all_goals go_wp2
      all_goals go_roundw
      case rel => exact ⟨1000 * q + (r * 1000 + c * g) / m, (r * 1000 + c * g) % m, 1, n / 1000, by first | rfl | go_num, by first | rfl | go_num, by first | rfl | go_num, .inr (.inr (.inr (.inl ⟨rfl, rfl⟩))), hst, by omega, y4, y1, y2, by go_simp, by go_simp, bwz⟩
      case measure => simp [intOf]
    · obtain ⟨c, hc⟩ : ∃ c, c = n / 1 % 1000 := ⟨_, rfl⟩
      have hcb : 0 ≤ c ∧ c ≤ 999 := by omega
      have hpc : n = 1000 * (n / 1000) + c := by omega
      obtain ⟨x1, x2⟩ := nn_bd 999 20000000000000 19980000000000000 hcb.1 hcb.2 g0 (by omega) (by decide)
      have hst := hide (dv_step (by omega) HQ.out hpc)
      have y0 : 0 ≤ (r * 1000 + c * g) / m := Int.ediv_nonneg (by omega) (by omega)
      have y1 : 0 ≤ (r * 1000 + c * g) % m := Int.emod_nonneg _ (by omega)
      have y2 : (r * 1000 + c * g) % m < m := Int.emod_lt_of_pos _ (by omega)
      have y3 : (r * 1000 + c * g) / m ≤ r * 1000 + c * g := Int.ediv_le_self _ (by omega)
      have y4 : 1000 * q + (r * 1000 + c * g) / m ≤ n := by
        have e := hst.out
        have e2 := Int.mul_le_mul_of_nonneg_left g1 (show 0 ≤ n by omega)
        rw [Int.mul_comm (n) m] at e2
        exact Int.le_of_mul_le_mul_left (by omega) (show 0 < m by omega)
      have en : n / 1 % 1000 = c := hc.symm
      have en2 : n % 1000 = c := by omega
      have Hc := hide (And.intro hc hpc)
      clear hc hpc HQ
      go_upto_region 5 with fail
      go_region
      all_goals go_wp2
      all_goals go_roundw
      case rel => exact ⟨1000 * q + (r * 1000 + c * g) / m, (r * 1000 + c * g) % m, 0, n, by first | rfl | go_num, by first | rfl | go_num, by first | rfl | go_num, .inr (.inr (.inr (.inr ⟨rfl, rfl⟩))), hst, by omega, y4, y1, y2, by go_simp, by go_simp, bwz⟩
      case measure => simp [intOf]
    · obtain ⟨e1, e2⟩ := Hfin.out q r r0 r1 HQ.out
      have He := hide (And.intro e1 e2)
      clear e1 e2 HQ
      go_wp2
      go_ret2
      exact ⟨by rw [← He.out.1, ← He.out.2]; rfl, hbl⟩
end Go.Proofs.YtiokigjnacmilaaGreatDoor
