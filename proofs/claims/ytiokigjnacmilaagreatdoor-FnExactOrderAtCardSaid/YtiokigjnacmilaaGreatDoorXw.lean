/- Walks: the side of a line, the way across it, the place of a crossing, a quotient in steps of 1000; of both. -/
import Derived.Test.YtiokigjnacmilaaGreatDoorXp
import Derived.Test.YtiokigjnacmilaaGreatDoorGv
import Derived.Test.YtiokigjnacmilaaGreatDoorCu
namespace Go.Proofs.YtiokigjnacmilaaGreatDoor
open Go.RowKit

theorem sgn_pos (c : Int) : (0 < sgn c) ↔ 0 < c := by unfold sgn; (repeat' split) <;> omega
theorem sgn_rng (c : Int) : -1 ≤ sgn c ∧ sgn c ≤ 1 := by unfold sgn; (repeat' split) <;> omega
theorem sgn_m (a b : Int) : -1 ≤ sgn a * sgn b ∧ sgn a * sgn b ≤ 1 := by
  rcases (by have := sgn_rng a; omega : sgn a = -1 ∨ sgn a = 0 ∨ sgn a = 1) with h | h | h <;> rw [h] <;> have := sgn_rng b <;> omega
/-- The way by the sides. -/
theorem wayI_s (ax ay bx bY px py qx qy : Int) : wayI ax ay bx bY px py qx qy = (if (decide (0 < sgn (crs ax ay bx bY px py)) == decide (0 < sgn (crs ax ay bx bY qx qy))) || decide (0 < sgn (crs px py qx qy ax ay) * sgn (crs px py qx qy bx bY)) then 0 else if 0 < sgn (crs ax ay bx bY qx qy) then 1 else -1) := by
  unfold wayI
  simp only [sgn_pos]
theorem impl_sideOf (ax ay bx bY px py : Int) (h1 : Sm ax) (h2 : Sm ay) (h3 : Sm bx) (h4 : Sm bY) (h5 : Sm px) (h6 : Sm py) (w : World) :
    Calls Tryz.prog 108 #[.agg #[.int .i64 ax, .int .i64 ay, .int .i64 bx, .int .i64 bY], .agg #[.int .i64 px, .int .i64 py]] w fun e w' => e = .returned (.int .i64 (sgn (crs ax ay bx bY px py))) ∧ Below w.heap.size w w' := by
  go_enter Tryz.func108, Tryz.ntmps108
  go_wp2_with (go_at_call 109; (with_reducible refine (impl_turn _ _ _ _ _ _ h1 h2 h3 h4 h5 h6 _).mono ?_); rintro e w9 ⟨rfl, hb⟩; obtain ⟨hc, hf⟩ := bcell hb; have hz := hb.size; have z0 : w.heap.size < w9.heap.size := (by first | omega | (simp at hz; omega)); have z1 : w.heap.size + 1 < w9.heap.size := (by first | omega | (simp at hz; omega)))
  go_ret
  exact ⟨rfl, bwz⟩
theorem spec_l04Before (ax ay bx bY px py : Int) (h1 : Sm ax) (h2 : Sm ay) (h3 : Sm bx) (h4 : Sm bY) (h5 : Sm px) (h6 : Sm py) (w : World) :
    Calls Tryz.prog 115 #[.agg #[.int .i64 ax, .int .i64 ay, .int .i64 bx, .int .i64 bY], .agg #[.int .i64 px, .int .i64 py]] w fun e w' => e = .returned (.int .i64 (sgn (crs ax ay bx bY px py))) ∧ Below w.heap.size w w' := by
  go_enter Tryz.func115, Tryz.ntmps115
  go_wp2_with (go_at_call 101; (with_reducible refine (spec_l01Turn _ _ _ _ _ _ h1 h2 h3 h4 h5 h6 _).mono ?_); rintro e w9 ⟨rfl, hb⟩; obtain ⟨hc, hf⟩ := bcell hb; have hz := hb.size; have z0 : w.heap.size < w9.heap.size := (by first | omega | (simp at hz; omega)); have z1 : w.heap.size + 1 < w9.heap.size := (by first | omega | (simp at hz; omega)))
  go_ret
  exact ⟨rfl, bwz⟩
theorem spec_l05Before (ax ay bx bY px py s : Int) (hs : sgn (crs ax ay bx bY px py) = s) (h1 : Sm ax) (h2 : Sm ay) (h3 : Sm bx) (h4 : Sm bY) (h5 : Sm px) (h6 : Sm py) (w : World) :
    Calls Tryz.prog 100 #[.agg #[.int .i64 ax, .int .i64 ay, .int .i64 bx, .int .i64 bY], .agg #[.int .i64 px, .int .i64 py]] w fun e w' => e = .returned (.bool (!decide (0 < s))) ∧ Below w.heap.size w w' := by
  have K := hide (fun W => hs ▸ spec_l04Before ax ay bx bY px py h1 h2 h3 h4 h5 h6 W)
  clear hs
  by_cases hp : 0 < s
  · have e : (!decide (0 < s)) = false := by rw [decide_eq_true hp]; rfl
    rw [e]
    clear e
    have hp2 : ¬ s ≤ 0 := by omega
    go_enter Tryz.func100, Tryz.ntmps100
    go_wp2_with (go_at_call 115; (with_reducible refine (K.out _).mono ?_); rintro e w9 ⟨rfl, hb⟩; obtain ⟨hc, hf⟩ := bcell hb; have hz := hb.size; have z0 : w.heap.size < w9.heap.size := (by first | omega | (simp at hz; omega)); have z1 : w.heap.size + 1 < w9.heap.size := (by first | omega | (simp at hz; omega)))
    go_ret
    exact ⟨by first | rfl | (simp [*]; done) | (simp; omega), bwz⟩
  · have e : (!decide (0 < s)) = true := by rw [decide_eq_false hp]; rfl
    rw [e]
    clear e
    have hp2 : s ≤ 0 := by omega
    go_enter Tryz.func100, Tryz.ntmps100
    go_wp2_with (go_at_call 115; (with_reducible refine (K.out _).mono ?_); rintro e w9 ⟨rfl, hb⟩; obtain ⟨hc, hf⟩ := bcell hb; have hz := hb.size; have z0 : w.heap.size < w9.heap.size := (by first | omega | (simp at hz; omega)); have z1 : w.heap.size + 1 < w9.heap.size := (by first | omega | (simp at hz; omega)))
    go_ret
    exact ⟨by first | rfl | (simp [*]; done) | (simp; omega), bwz⟩
set_option maxRecDepth 100000 in
set_option maxHeartbeats 8000000 in
theorem impl_wayAcross (ax ay bx bY px py qx qy : Int) (h1 : Sm ax) (h2 : Sm ay) (h3 : Sm bx) (h4 : Sm bY) (h5 : Sm px) (h6 : Sm py) (h7 : Sm qx) (h8 : Sm qy) (w : World) :
    Calls Tryz.prog 95 #[.agg #[.int .i64 ax, .int .i64 ay, .int .i64 bx, .int .i64 bY], .agg #[.int .i64 px, .int .i64 py], .agg #[.int .i64 qx, .int .i64 qy]] w fun e w' => e = .returned (.int .i64 (wayI ax ay bx bY px py qx qy)) ∧ Below w.heap.size w w' := by
  obtain ⟨r1, r2⟩ := sgn_m (crs px py qx qy ax ay) (crs px py qx qy bx bY)
  rw [wayI_s]
  have K1 := fun W => impl_sideOf ax ay bx bY px py h1 h2 h3 h4 h5 h6 W
  have K2 := fun W => impl_sideOf ax ay bx bY qx qy h1 h2 h3 h4 h7 h8 W
  have K3 := fun W => impl_turn px py qx qy ax ay h5 h6 h7 h8 h1 h2 W
  have K4 := fun W => impl_turn px py qx qy bx bY h5 h6 h7 h8 h3 h4 W
  generalize sgn (crs ax ay bx bY px py) = s1 at *
  generalize sgn (crs ax ay bx bY qx qy) = s2 at *
  generalize sgn (crs px py qx qy ax ay) = u1 at *
  generalize sgn (crs px py qx qy bx bY) = u2 at *
  have we : IntKind.i64.wrap (u1 * u2) = u1 * u2 := IntWalk.i64_in _ (by omega)
  obtain ⟨r9, hr9⟩ : ∃ r : Int, r = (if (decide (0 < s1) == decide (0 < s2)) || decide (0 < u1 * u2) then 0 else if 0 < s2 then 1 else -1) := ⟨_, rfl⟩
  rw [← hr9]
  have Hr9 := hide hr9
  have K1 := hide K1
  have K2 := hide K2
  have K3 := hide K3
  have K4 := hide K4
  clear h1 h2 h3 h4 h5 h6 h7 h8 hr9
  rcases (Classical.em (0 < s1)) with p1 | p1
  · rcases (Classical.em (0 < s2)) with p2 | p2
    · have d1 := hide (show decide (0 < s1) = true from decide_eq_true p1)
      have d2 := hide (show decide (0 < s2) = true from decide_eq_true p2)
      go_enter Tryz.func95, Tryz.ntmps95
      go_upto_region 1 with fail
      go_cut [7, 8] (fun s7 s8 W => s7 = .bool true ∧ s8 = .bool true ∧ W.cell? ⟨w.heap.size, 0, none⟩ = some (.int .i64 ax) ∧ W.cell? ⟨w.heap.size, 1, none⟩ = some (.int .i64 ay) ∧ W.cell? ⟨w.heap.size, 2, none⟩ = some (.int .i64 bx) ∧ W.cell? ⟨w.heap.size, 3, none⟩ = some (.int .i64 bY) ∧ W.cell? ⟨w.heap.size + 1, 0, none⟩ = some (.int .i64 px) ∧ W.cell? ⟨w.heap.size + 1, 1, none⟩ = some (.int .i64 py) ∧ W.cell? ⟨w.heap.size + 2, 0, none⟩ = some (.int .i64 qx) ∧ W.cell? ⟨w.heap.size + 2, 1, none⟩ = some (.int .i64 qy) ∧ Below w.heap.size w W ∧ w.heap.size + 3 ≤ W.heap.size)
      case first =>
        obtain ⟨wT, hT⟩ : ∃ W, W = (((w.alloc (.cells #[.int .i64 ax, .int .i64 ay, .int .i64 bx, .int .i64 bY] 37)).alloc (.cells #[.int .i64 px, .int .i64 py] 35)).alloc (.cells #[.int .i64 qx, .int .i64 qy] 35)) := ⟨_, rfl⟩
        have m0 : wT.cell? ⟨w.heap.size, 0, none⟩ = some (.int .i64 ax) := by rw [hT]; go_simp
        have m1 : wT.cell? ⟨w.heap.size, 1, none⟩ = some (.int .i64 ay) := by rw [hT]; go_simp
        have m2 : wT.cell? ⟨w.heap.size, 2, none⟩ = some (.int .i64 bx) := by rw [hT]; go_simp
        have m3 : wT.cell? ⟨w.heap.size, 3, none⟩ = some (.int .i64 bY) := by rw [hT]; go_simp
        have m4 : wT.cell? ⟨w.heap.size + 1, 0, none⟩ = some (.int .i64 px) := by rw [hT]; go_simp
        have m5 : wT.cell? ⟨w.heap.size + 1, 1, none⟩ = some (.int .i64 py) := by rw [hT]; go_simp
        have m6 : wT.cell? ⟨w.heap.size + 1 + 1, 0, none⟩ = some (.int .i64 qx) := by rw [hT]; go_simp
        have m7 : wT.cell? ⟨w.heap.size + 1 + 1, 1, none⟩ = some (.int .i64 qy) := by rw [hT]; go_simp
        have HBT := hide (show Below w.heap.size w wT by rw [hT]; exact bwz)
        have zT2 : w.heap.size + 1 + 1 < wT.heap.size := by rw [hT]; simp
        have zT1 : w.heap.size + 1 < wT.heap.size := by omega
        have zT0 : w.heap.size < wT.heap.size := by omega
        rw [← hT]
        clear hT
        refine wp_region_held_drew (S := fun W => Below wT.heap.size wT W) (by kernel_rfl) (Below.drew (Below.refl _ _)) (fun hHeld => ?_)
        refine tkL 0 (some 9) rfl ?_; (try simp only [pz])
        refine tkL 1 (some 10) rfl ?_; (try simp only [pz])
        refine tkL 4 (some 13) rfl ?_; (try simp only [pz])
        refine tkL 5 (some 14) rfl ?_; (try simp only [pz])
        refine wpAnyH_ready (rs := [2]) (by kernel_rfl) (by simp) ?_; refine (AllReadyH.cons (o := ⟨some 11, _, _, _, _, _⟩) rfl (fun K hK => ?_) AllReadyH.nil)
        go_simp; (first | (go_at_call 108; (with_reducible refine (K1.out _).mono ?_); rintro e w9 ⟨rfl, hb⟩) | (go_at_call 108; (with_reducible refine (K2.out _).mono ?_); rintro e w9 ⟨rfl, hb⟩))
        all_goals (try go_wp2_with fail)
        refine hK.out _ _ ?_ (fun hH2 => ?_)
        · first | exact bstep hHeld hb | exact hHeld.trans hb | exact hHeld
        clear hK K hHeld; (have hHeld := hH2); clear hH2; (try simp only [pz])
        refine tkN 3 (some 12) rfl ?_; (try simp only [pz])
        refine wpAnyH_ready (rs := [6]) (by kernel_rfl) (by simp) ?_; refine (AllReadyH.cons (o := ⟨some 15, _, _, _, _, _⟩) rfl (fun K hK => ?_) AllReadyH.nil)
        go_simp; (first | (go_at_call 108; (with_reducible refine (K1.out _).mono ?_); rintro e w9 ⟨rfl, hb⟩) | (go_at_call 108; (with_reducible refine (K2.out _).mono ?_); rintro e w9 ⟨rfl, hb⟩))
        all_goals (try go_wp2_with fail)
        refine hK.out _ _ ?_ (fun hH2 => ?_)
        · first | exact bstep hHeld hb | exact hHeld.trans hb | exact hHeld
        clear hK K hHeld; (have hHeld := hH2); clear hH2; (try simp only [pz])
        refine tkN 7 (some 16) rfl ?_; (try simp only [pz])
        refine tkN 8 (some 7) rfl ?_; (try simp only [pz])
        refine tkN 9 (some 8) rfl ?_; (try simp only [pz])
        refine wpAnyH_done (by kernel_rfl) ?_ _; (try simp only [pz])
        go_wp2_with fail
        go_meet
        exact ⟨by simp [*], by simp [*], cell_later hHeld m0, cell_later hHeld m1, cell_later hHeld m2, cell_later hHeld m3, cell_later hHeld m4, cell_later hHeld m5, cell_later hHeld m6, cell_later hHeld m7, bstep HBT.out hHeld, (by have := hHeld.size; omega)⟩
      case rest =>
        obtain ⟨rfl, rfl, m0, m1, m2, m3, m4, m5, m6, m7, kB, kz⟩ := hcut
        have HBT := hide kB
        have zT2 : w.heap.size + 1 + 1 < wc.heap.size := by omega
        have zT1 : w.heap.size + 1 < wc.heap.size := by omega
        have zT0 : w.heap.size < wc.heap.size := by omega
        clear kB
        go_upto_region 2 with fail
        refine wp_region_held_drew (S := fun W => Below wc.heap.size wc W) (by kernel_rfl) (Below.drew (Below.refl _ _)) (fun hHeld => ?_)
        refine tkN 0 (some 17) rfl ?_; (try simp only [pz])
        refine tkN 1 (some 18) rfl ?_; (try simp only [pz])
        refine tkN 2 (some 19) rfl ?_; (try simp only [pz])
        refine tkN 3 (some 20) rfl ?_; (try simp only [pz])
        refine tkO 4 (some 21) rfl ?_; (try simp only [pz])
        refine tkO 5 (some 22) rfl ?_; (try simp only [pz])
        refine tkO 6 (some 23) rfl ?_; (try simp only [pz])
        refine tkO 7 (some 24) rfl ?_; (try simp only [pz])
        refine tkO 8 (some 25) rfl ?_; (try simp only [pz])
        refine tkO 9 (some 26) rfl ?_; (try simp only [pz])
        refine tkO 10 (some 27) rfl ?_; (try simp only [pz])
        refine tkO 11 (some 28) rfl ?_; (try simp only [pz])
        refine tkO 12 (some 29) rfl ?_; (try simp only [pz])
        refine tkO 13 (some 30) rfl ?_; (try simp only [pz])
        refine tkO 14 (some 31) rfl ?_; (try simp only [pz])
        refine tkO 15 (some 32) rfl ?_; (try simp only [pz])
        refine tkN 16 (some 33) rfl ?_; (try simp only [pz])
        refine wpAnyH_done (by kernel_rfl) ?_ _; (try simp only [pz])
        go_wp2
        go_ret
        exact ⟨by rw [Hr9.out, d1.out, d2.out]; rfl, bstep HBT.out hHeld⟩
    · have d1 := hide (show decide (0 < s1) = true from decide_eq_true p1)
      have d2 := hide (show decide (0 < s2) = false from decide_eq_false p2)
      go_enter Tryz.func95, Tryz.ntmps95
      go_upto_region 1 with fail
      go_cut [7, 8] (fun s7 s8 W => s7 = .bool true ∧ s8 = .bool false ∧ W.cell? ⟨w.heap.size, 0, none⟩ = some (.int .i64 ax) ∧ W.cell? ⟨w.heap.size, 1, none⟩ = some (.int .i64 ay) ∧ W.cell? ⟨w.heap.size, 2, none⟩ = some (.int .i64 bx) ∧ W.cell? ⟨w.heap.size, 3, none⟩ = some (.int .i64 bY) ∧ W.cell? ⟨w.heap.size + 1, 0, none⟩ = some (.int .i64 px) ∧ W.cell? ⟨w.heap.size + 1, 1, none⟩ = some (.int .i64 py) ∧ W.cell? ⟨w.heap.size + 2, 0, none⟩ = some (.int .i64 qx) ∧ W.cell? ⟨w.heap.size + 2, 1, none⟩ = some (.int .i64 qy) ∧ Below w.heap.size w W ∧ w.heap.size + 3 ≤ W.heap.size)
      case first =>
        obtain ⟨wT, hT⟩ : ∃ W, W = (((w.alloc (.cells #[.int .i64 ax, .int .i64 ay, .int .i64 bx, .int .i64 bY] 37)).alloc (.cells #[.int .i64 px, .int .i64 py] 35)).alloc (.cells #[.int .i64 qx, .int .i64 qy] 35)) := ⟨_, rfl⟩
        have m0 : wT.cell? ⟨w.heap.size, 0, none⟩ = some (.int .i64 ax) := by rw [hT]; go_simp
        have m1 : wT.cell? ⟨w.heap.size, 1, none⟩ = some (.int .i64 ay) := by rw [hT]; go_simp
        have m2 : wT.cell? ⟨w.heap.size, 2, none⟩ = some (.int .i64 bx) := by rw [hT]; go_simp
        have m3 : wT.cell? ⟨w.heap.size, 3, none⟩ = some (.int .i64 bY) := by rw [hT]; go_simp
        have m4 : wT.cell? ⟨w.heap.size + 1, 0, none⟩ = some (.int .i64 px) := by rw [hT]; go_simp
        have m5 : wT.cell? ⟨w.heap.size + 1, 1, none⟩ = some (.int .i64 py) := by rw [hT]; go_simp
        have m6 : wT.cell? ⟨w.heap.size + 1 + 1, 0, none⟩ = some (.int .i64 qx) := by rw [hT]; go_simp
        have m7 : wT.cell? ⟨w.heap.size + 1 + 1, 1, none⟩ = some (.int .i64 qy) := by rw [hT]; go_simp
        have HBT := hide (show Below w.heap.size w wT by rw [hT]; exact bwz)
        have zT2 : w.heap.size + 1 + 1 < wT.heap.size := by rw [hT]; simp
        have zT1 : w.heap.size + 1 < wT.heap.size := by omega
        have zT0 : w.heap.size < wT.heap.size := by omega
        rw [← hT]
        clear hT
        refine wp_region_held_drew (S := fun W => Below wT.heap.size wT W) (by kernel_rfl) (Below.drew (Below.refl _ _)) (fun hHeld => ?_)
        refine tkL 0 (some 9) rfl ?_; (try simp only [pz])
        refine tkL 1 (some 10) rfl ?_; (try simp only [pz])
        refine tkL 4 (some 13) rfl ?_; (try simp only [pz])
        refine tkL 5 (some 14) rfl ?_; (try simp only [pz])
        refine wpAnyH_ready (rs := [2]) (by kernel_rfl) (by simp) ?_; refine (AllReadyH.cons (o := ⟨some 11, _, _, _, _, _⟩) rfl (fun K hK => ?_) AllReadyH.nil)
        go_simp; (first | (go_at_call 108; (with_reducible refine (K1.out _).mono ?_); rintro e w9 ⟨rfl, hb⟩) | (go_at_call 108; (with_reducible refine (K2.out _).mono ?_); rintro e w9 ⟨rfl, hb⟩))
        all_goals (try go_wp2_with fail)
        refine hK.out _ _ ?_ (fun hH2 => ?_)
        · first | exact bstep hHeld hb | exact hHeld.trans hb | exact hHeld
        clear hK K hHeld; (have hHeld := hH2); clear hH2; (try simp only [pz])
        refine tkN 3 (some 12) rfl ?_; (try simp only [pz])
        refine wpAnyH_ready (rs := [6]) (by kernel_rfl) (by simp) ?_; refine (AllReadyH.cons (o := ⟨some 15, _, _, _, _, _⟩) rfl (fun K hK => ?_) AllReadyH.nil)
        go_simp; (first | (go_at_call 108; (with_reducible refine (K1.out _).mono ?_); rintro e w9 ⟨rfl, hb⟩) | (go_at_call 108; (with_reducible refine (K2.out _).mono ?_); rintro e w9 ⟨rfl, hb⟩))
        all_goals (try go_wp2_with fail)
        refine hK.out _ _ ?_ (fun hH2 => ?_)
        · first | exact bstep hHeld hb | exact hHeld.trans hb | exact hHeld
        clear hK K hHeld; (have hHeld := hH2); clear hH2; (try simp only [pz])
        refine tkN 7 (some 16) rfl ?_; (try simp only [pz])
        refine tkN 8 (some 7) rfl ?_; (try simp only [pz])
        refine tkN 9 (some 8) rfl ?_; (try simp only [pz])
        refine wpAnyH_done (by kernel_rfl) ?_ _; (try simp only [pz])
        go_wp2_with fail
        go_meet
        exact ⟨by simp [*], by simp [*], cell_later hHeld m0, cell_later hHeld m1, cell_later hHeld m2, cell_later hHeld m3, cell_later hHeld m4, cell_later hHeld m5, cell_later hHeld m6, cell_later hHeld m7, bstep HBT.out hHeld, (by have := hHeld.size; omega)⟩
      case rest =>
        obtain ⟨rfl, rfl, m0, m1, m2, m3, m4, m5, m6, m7, kB, kz⟩ := hcut
        have HBT := hide kB
        have zT2 : w.heap.size + 1 + 1 < wc.heap.size := by omega
        have zT1 : w.heap.size + 1 < wc.heap.size := by omega
        have zT0 : w.heap.size < wc.heap.size := by omega
        clear kB
        go_upto_region 2 with fail
        rcases (Classical.em (0 < u1 * u2)) with p3 | p3
        · have d3 := hide (show decide (0 < u1 * u2) = true from decide_eq_true p3)
          refine wp_region_held_drew (S := fun W => Below wc.heap.size wc W) (by kernel_rfl) (Below.drew (Below.refl _ _)) (fun hHeld => ?_)
          refine tkN 0 (some 17) rfl ?_; (try simp only [pz])
          refine tkN 1 (some 18) rfl ?_; (try simp only [pz])
          refine tkN 2 (some 19) rfl ?_; (try simp only [pz])
          refine tkN 3 (some 20) rfl ?_; (try simp only [pz])
          refine tkL 4 (some 21) rfl ?_; (try simp only [pz])
          refine tkL 5 (some 22) rfl ?_; (try simp only [pz])
          refine tkN 6 (some 23) rfl ?_; (try simp only [pz])
          refine tkL 7 (some 24) rfl ?_; (try simp only [pz])
          refine tkL 9 (some 26) rfl ?_; (try simp only [pz])
          refine tkL 10 (some 27) rfl ?_; (try simp only [pz])
          refine tkN 11 (some 28) rfl ?_; (try simp only [pz])
          refine tkL 12 (some 29) rfl ?_; (try simp only [pz])
          refine wpAnyH_ready (rs := [8]) (by kernel_rfl) (by simp) ?_; refine (AllReadyH.cons (o := ⟨some 25, _, _, _, _, _⟩) rfl (fun K hK => ?_) AllReadyH.nil)
          go_simp; (first | (go_at_call 109; (with_reducible refine (K3.out _).mono ?_); rintro e w9 ⟨rfl, hb⟩) | (go_at_call 109; (with_reducible refine (K4.out _).mono ?_); rintro e w9 ⟨rfl, hb⟩))
          all_goals (try go_wp2_with fail)
          refine hK.out _ _ ?_ (fun hH2 => ?_)
          · first | exact bstep hHeld hb | exact hHeld.trans hb | exact hHeld
          clear hK K hHeld; (have hHeld := hH2); clear hH2; (try simp only [pz])
          refine wpAnyH_ready (rs := [13]) (by kernel_rfl) (by simp) ?_; refine (AllReadyH.cons (o := ⟨some 30, _, _, _, _, _⟩) rfl (fun K hK => ?_) AllReadyH.nil)
          go_simp; (first | (go_at_call 109; (with_reducible refine (K3.out _).mono ?_); rintro e w9 ⟨rfl, hb⟩) | (go_at_call 109; (with_reducible refine (K4.out _).mono ?_); rintro e w9 ⟨rfl, hb⟩))
          all_goals (try go_wp2_with fail)
          refine hK.out _ _ ?_ (fun hH2 => ?_)
          · first | exact bstep hHeld hb | exact hHeld.trans hb | exact hHeld
          clear hK K hHeld; (have hHeld := hH2); clear hH2; (try simp only [pz])
          refine tkN 14 (some 31) rfl ?_; (try simp only [pz])
          refine tkN 15 (some 32) rfl ?_; (try simp only [pz])
          refine tkN 16 (some 33) rfl ?_; (try simp only [pz])
          refine wpAnyH_done (by kernel_rfl) ?_ _; (try simp only [pz])
          go_wp2
          go_ret
          exact ⟨by rw [Hr9.out, d1.out, d2.out, d3.out]; rfl, bstep HBT.out hHeld⟩
        · have d3 := hide (show decide (0 < u1 * u2) = false from decide_eq_false p3)
          refine wp_region_held_drew (S := fun W => Below wc.heap.size wc W) (by kernel_rfl) (Below.drew (Below.refl _ _)) (fun hHeld => ?_)
          refine tkN 0 (some 17) rfl ?_; (try simp only [pz])
          refine tkN 1 (some 18) rfl ?_; (try simp only [pz])
          refine tkN 2 (some 19) rfl ?_; (try simp only [pz])
          refine tkN 3 (some 20) rfl ?_; (try simp only [pz])
          refine tkL 4 (some 21) rfl ?_; (try simp only [pz])
          refine tkL 5 (some 22) rfl ?_; (try simp only [pz])
          refine tkN 6 (some 23) rfl ?_; (try simp only [pz])
          refine tkL 7 (some 24) rfl ?_; (try simp only [pz])
          refine tkL 9 (some 26) rfl ?_; (try simp only [pz])
          refine tkL 10 (some 27) rfl ?_; (try simp only [pz])
          refine tkN 11 (some 28) rfl ?_; (try simp only [pz])
          refine tkL 12 (some 29) rfl ?_; (try simp only [pz])
          refine wpAnyH_ready (rs := [8]) (by kernel_rfl) (by simp) ?_; refine (AllReadyH.cons (o := ⟨some 25, _, _, _, _, _⟩) rfl (fun K hK => ?_) AllReadyH.nil)
          go_simp; (first | (go_at_call 109; (with_reducible refine (K3.out _).mono ?_); rintro e w9 ⟨rfl, hb⟩) | (go_at_call 109; (with_reducible refine (K4.out _).mono ?_); rintro e w9 ⟨rfl, hb⟩))
          all_goals (try go_wp2_with fail)
          refine hK.out _ _ ?_ (fun hH2 => ?_)
          · first | exact bstep hHeld hb | exact hHeld.trans hb | exact hHeld
          clear hK K hHeld; (have hHeld := hH2); clear hH2; (try simp only [pz])
          refine wpAnyH_ready (rs := [13]) (by kernel_rfl) (by simp) ?_; refine (AllReadyH.cons (o := ⟨some 30, _, _, _, _, _⟩) rfl (fun K hK => ?_) AllReadyH.nil)
          go_simp; (first | (go_at_call 109; (with_reducible refine (K3.out _).mono ?_); rintro e w9 ⟨rfl, hb⟩) | (go_at_call 109; (with_reducible refine (K4.out _).mono ?_); rintro e w9 ⟨rfl, hb⟩))
          all_goals (try go_wp2_with fail)
          refine hK.out _ _ ?_ (fun hH2 => ?_)
          · first | exact bstep hHeld hb | exact hHeld.trans hb | exact hHeld
          clear hK K hHeld; (have hHeld := hH2); clear hH2; (try simp only [pz])
          refine tkN 14 (some 31) rfl ?_; (try simp only [pz])
          refine tkN 15 (some 32) rfl ?_; (try simp only [pz])
          refine tkN 16 (some 33) rfl ?_; (try simp only [pz])
          refine wpAnyH_done (by kernel_rfl) ?_ _; (try simp only [pz])
          go_wp2
          go_ret
          exact ⟨by rw [Hr9.out, d1.out, d2.out, d3.out]; rw [if_neg (by decide), if_neg (of_decide_eq_false d2.out)]; rfl, bstep HBT.out hHeld⟩
  · rcases (Classical.em (0 < s2)) with p2 | p2
    · have d1 := hide (show decide (0 < s1) = false from decide_eq_false p1)
      have d2 := hide (show decide (0 < s2) = true from decide_eq_true p2)
      go_enter Tryz.func95, Tryz.ntmps95
      go_upto_region 1 with fail
      go_cut [7, 8] (fun s7 s8 W => s7 = .bool false ∧ s8 = .bool true ∧ W.cell? ⟨w.heap.size, 0, none⟩ = some (.int .i64 ax) ∧ W.cell? ⟨w.heap.size, 1, none⟩ = some (.int .i64 ay) ∧ W.cell? ⟨w.heap.size, 2, none⟩ = some (.int .i64 bx) ∧ W.cell? ⟨w.heap.size, 3, none⟩ = some (.int .i64 bY) ∧ W.cell? ⟨w.heap.size + 1, 0, none⟩ = some (.int .i64 px) ∧ W.cell? ⟨w.heap.size + 1, 1, none⟩ = some (.int .i64 py) ∧ W.cell? ⟨w.heap.size + 2, 0, none⟩ = some (.int .i64 qx) ∧ W.cell? ⟨w.heap.size + 2, 1, none⟩ = some (.int .i64 qy) ∧ Below w.heap.size w W ∧ w.heap.size + 3 ≤ W.heap.size)
      case first =>
        obtain ⟨wT, hT⟩ : ∃ W, W = (((w.alloc (.cells #[.int .i64 ax, .int .i64 ay, .int .i64 bx, .int .i64 bY] 37)).alloc (.cells #[.int .i64 px, .int .i64 py] 35)).alloc (.cells #[.int .i64 qx, .int .i64 qy] 35)) := ⟨_, rfl⟩
        have m0 : wT.cell? ⟨w.heap.size, 0, none⟩ = some (.int .i64 ax) := by rw [hT]; go_simp
        have m1 : wT.cell? ⟨w.heap.size, 1, none⟩ = some (.int .i64 ay) := by rw [hT]; go_simp
        have m2 : wT.cell? ⟨w.heap.size, 2, none⟩ = some (.int .i64 bx) := by rw [hT]; go_simp
        have m3 : wT.cell? ⟨w.heap.size, 3, none⟩ = some (.int .i64 bY) := by rw [hT]; go_simp
        have m4 : wT.cell? ⟨w.heap.size + 1, 0, none⟩ = some (.int .i64 px) := by rw [hT]; go_simp
        have m5 : wT.cell? ⟨w.heap.size + 1, 1, none⟩ = some (.int .i64 py) := by rw [hT]; go_simp
        have m6 : wT.cell? ⟨w.heap.size + 1 + 1, 0, none⟩ = some (.int .i64 qx) := by rw [hT]; go_simp
        have m7 : wT.cell? ⟨w.heap.size + 1 + 1, 1, none⟩ = some (.int .i64 qy) := by rw [hT]; go_simp
        have HBT := hide (show Below w.heap.size w wT by rw [hT]; exact bwz)
        have zT2 : w.heap.size + 1 + 1 < wT.heap.size := by rw [hT]; simp
        have zT1 : w.heap.size + 1 < wT.heap.size := by omega
        have zT0 : w.heap.size < wT.heap.size := by omega
        rw [← hT]
        clear hT
        refine wp_region_held_drew (S := fun W => Below wT.heap.size wT W) (by kernel_rfl) (Below.drew (Below.refl _ _)) (fun hHeld => ?_)
        refine tkL 0 (some 9) rfl ?_; (try simp only [pz])
        refine tkL 1 (some 10) rfl ?_; (try simp only [pz])
        refine tkL 4 (some 13) rfl ?_; (try simp only [pz])
        refine tkL 5 (some 14) rfl ?_; (try simp only [pz])
        refine wpAnyH_ready (rs := [2]) (by kernel_rfl) (by simp) ?_; refine (AllReadyH.cons (o := ⟨some 11, _, _, _, _, _⟩) rfl (fun K hK => ?_) AllReadyH.nil)
        go_simp; (first | (go_at_call 108; (with_reducible refine (K1.out _).mono ?_); rintro e w9 ⟨rfl, hb⟩) | (go_at_call 108; (with_reducible refine (K2.out _).mono ?_); rintro e w9 ⟨rfl, hb⟩))
        all_goals (try go_wp2_with fail)
        refine hK.out _ _ ?_ (fun hH2 => ?_)
        · first | exact bstep hHeld hb | exact hHeld.trans hb | exact hHeld
        clear hK K hHeld; (have hHeld := hH2); clear hH2; (try simp only [pz])
        refine tkN 3 (some 12) rfl ?_; (try simp only [pz])
        refine wpAnyH_ready (rs := [6]) (by kernel_rfl) (by simp) ?_; refine (AllReadyH.cons (o := ⟨some 15, _, _, _, _, _⟩) rfl (fun K hK => ?_) AllReadyH.nil)
        go_simp; (first | (go_at_call 108; (with_reducible refine (K1.out _).mono ?_); rintro e w9 ⟨rfl, hb⟩) | (go_at_call 108; (with_reducible refine (K2.out _).mono ?_); rintro e w9 ⟨rfl, hb⟩))
        all_goals (try go_wp2_with fail)
        refine hK.out _ _ ?_ (fun hH2 => ?_)
        · first | exact bstep hHeld hb | exact hHeld.trans hb | exact hHeld
        clear hK K hHeld; (have hHeld := hH2); clear hH2; (try simp only [pz])
        refine tkN 7 (some 16) rfl ?_; (try simp only [pz])
        refine tkN 8 (some 7) rfl ?_; (try simp only [pz])
        refine tkN 9 (some 8) rfl ?_; (try simp only [pz])
        refine wpAnyH_done (by kernel_rfl) ?_ _; (try simp only [pz])
        go_wp2_with fail
        go_meet
        exact ⟨by simp [*], by simp [*], cell_later hHeld m0, cell_later hHeld m1, cell_later hHeld m2, cell_later hHeld m3, cell_later hHeld m4, cell_later hHeld m5, cell_later hHeld m6, cell_later hHeld m7, bstep HBT.out hHeld, (by have := hHeld.size; omega)⟩
      case rest =>
        obtain ⟨rfl, rfl, m0, m1, m2, m3, m4, m5, m6, m7, kB, kz⟩ := hcut
        have HBT := hide kB
        have zT2 : w.heap.size + 1 + 1 < wc.heap.size := by omega
        have zT1 : w.heap.size + 1 < wc.heap.size := by omega
        have zT0 : w.heap.size < wc.heap.size := by omega
        clear kB
        go_upto_region 2 with fail
        rcases (Classical.em (0 < u1 * u2)) with p3 | p3
        · have d3 := hide (show decide (0 < u1 * u2) = true from decide_eq_true p3)
          refine wp_region_held_drew (S := fun W => Below wc.heap.size wc W) (by kernel_rfl) (Below.drew (Below.refl _ _)) (fun hHeld => ?_)
          refine tkN 0 (some 17) rfl ?_; (try simp only [pz])
          refine tkN 1 (some 18) rfl ?_; (try simp only [pz])
          refine tkN 2 (some 19) rfl ?_; (try simp only [pz])
          refine tkN 3 (some 20) rfl ?_; (try simp only [pz])
          refine tkL 4 (some 21) rfl ?_; (try simp only [pz])
          refine tkL 5 (some 22) rfl ?_; (try simp only [pz])
          refine tkN 6 (some 23) rfl ?_; (try simp only [pz])
          refine tkL 7 (some 24) rfl ?_; (try simp only [pz])
          refine tkL 9 (some 26) rfl ?_; (try simp only [pz])
          refine tkL 10 (some 27) rfl ?_; (try simp only [pz])
          refine tkN 11 (some 28) rfl ?_; (try simp only [pz])
          refine tkL 12 (some 29) rfl ?_; (try simp only [pz])
          refine wpAnyH_ready (rs := [8]) (by kernel_rfl) (by simp) ?_; refine (AllReadyH.cons (o := ⟨some 25, _, _, _, _, _⟩) rfl (fun K hK => ?_) AllReadyH.nil)
          go_simp; (first | (go_at_call 109; (with_reducible refine (K3.out _).mono ?_); rintro e w9 ⟨rfl, hb⟩) | (go_at_call 109; (with_reducible refine (K4.out _).mono ?_); rintro e w9 ⟨rfl, hb⟩))
          all_goals (try go_wp2_with fail)
          refine hK.out _ _ ?_ (fun hH2 => ?_)
          · first | exact bstep hHeld hb | exact hHeld.trans hb | exact hHeld
          clear hK K hHeld; (have hHeld := hH2); clear hH2; (try simp only [pz])
          refine wpAnyH_ready (rs := [13]) (by kernel_rfl) (by simp) ?_; refine (AllReadyH.cons (o := ⟨some 30, _, _, _, _, _⟩) rfl (fun K hK => ?_) AllReadyH.nil)
          go_simp; (first | (go_at_call 109; (with_reducible refine (K3.out _).mono ?_); rintro e w9 ⟨rfl, hb⟩) | (go_at_call 109; (with_reducible refine (K4.out _).mono ?_); rintro e w9 ⟨rfl, hb⟩))
          all_goals (try go_wp2_with fail)
          refine hK.out _ _ ?_ (fun hH2 => ?_)
          · first | exact bstep hHeld hb | exact hHeld.trans hb | exact hHeld
          clear hK K hHeld; (have hHeld := hH2); clear hH2; (try simp only [pz])
          refine tkN 14 (some 31) rfl ?_; (try simp only [pz])
          refine tkN 15 (some 32) rfl ?_; (try simp only [pz])
          refine tkN 16 (some 33) rfl ?_; (try simp only [pz])
          refine wpAnyH_done (by kernel_rfl) ?_ _; (try simp only [pz])
          go_wp2
          go_ret
          exact ⟨by rw [Hr9.out, d1.out, d2.out, d3.out]; rfl, bstep HBT.out hHeld⟩
        · have d3 := hide (show decide (0 < u1 * u2) = false from decide_eq_false p3)
          refine wp_region_held_drew (S := fun W => Below wc.heap.size wc W) (by kernel_rfl) (Below.drew (Below.refl _ _)) (fun hHeld => ?_)
          refine tkN 0 (some 17) rfl ?_; (try simp only [pz])
          refine tkN 1 (some 18) rfl ?_; (try simp only [pz])
          refine tkN 2 (some 19) rfl ?_; (try simp only [pz])
          refine tkN 3 (some 20) rfl ?_; (try simp only [pz])
          refine tkL 4 (some 21) rfl ?_; (try simp only [pz])
          refine tkL 5 (some 22) rfl ?_; (try simp only [pz])
          refine tkN 6 (some 23) rfl ?_; (try simp only [pz])
          refine tkL 7 (some 24) rfl ?_; (try simp only [pz])
          refine tkL 9 (some 26) rfl ?_; (try simp only [pz])
          refine tkL 10 (some 27) rfl ?_; (try simp only [pz])
          refine tkN 11 (some 28) rfl ?_; (try simp only [pz])
          refine tkL 12 (some 29) rfl ?_; (try simp only [pz])
          refine wpAnyH_ready (rs := [8]) (by kernel_rfl) (by simp) ?_; refine (AllReadyH.cons (o := ⟨some 25, _, _, _, _, _⟩) rfl (fun K hK => ?_) AllReadyH.nil)
          go_simp; (first | (go_at_call 109; (with_reducible refine (K3.out _).mono ?_); rintro e w9 ⟨rfl, hb⟩) | (go_at_call 109; (with_reducible refine (K4.out _).mono ?_); rintro e w9 ⟨rfl, hb⟩))
          all_goals (try go_wp2_with fail)
          refine hK.out _ _ ?_ (fun hH2 => ?_)
          · first | exact bstep hHeld hb | exact hHeld.trans hb | exact hHeld
          clear hK K hHeld; (have hHeld := hH2); clear hH2; (try simp only [pz])
          refine wpAnyH_ready (rs := [13]) (by kernel_rfl) (by simp) ?_; refine (AllReadyH.cons (o := ⟨some 30, _, _, _, _, _⟩) rfl (fun K hK => ?_) AllReadyH.nil)
          go_simp; (first | (go_at_call 109; (with_reducible refine (K3.out _).mono ?_); rintro e w9 ⟨rfl, hb⟩) | (go_at_call 109; (with_reducible refine (K4.out _).mono ?_); rintro e w9 ⟨rfl, hb⟩))
          all_goals (try go_wp2_with fail)
          refine hK.out _ _ ?_ (fun hH2 => ?_)
          · first | exact bstep hHeld hb | exact hHeld.trans hb | exact hHeld
          clear hK K hHeld; (have hHeld := hH2); clear hH2; (try simp only [pz])
          refine tkN 14 (some 31) rfl ?_; (try simp only [pz])
          refine tkN 15 (some 32) rfl ?_; (try simp only [pz])
          refine tkN 16 (some 33) rfl ?_; (try simp only [pz])
          refine wpAnyH_done (by kernel_rfl) ?_ _; (try simp only [pz])
          go_wp2
          go_ret
          exact ⟨by rw [Hr9.out, d1.out, d2.out, d3.out]; rw [if_neg (by decide), if_pos (of_decide_eq_true d2.out)]; rfl, bstep HBT.out hHeld⟩
    · have d1 := hide (show decide (0 < s1) = false from decide_eq_false p1)
      have d2 := hide (show decide (0 < s2) = false from decide_eq_false p2)
      go_enter Tryz.func95, Tryz.ntmps95
      go_upto_region 1 with fail
      go_cut [7, 8] (fun s7 s8 W => s7 = .bool false ∧ s8 = .bool false ∧ W.cell? ⟨w.heap.size, 0, none⟩ = some (.int .i64 ax) ∧ W.cell? ⟨w.heap.size, 1, none⟩ = some (.int .i64 ay) ∧ W.cell? ⟨w.heap.size, 2, none⟩ = some (.int .i64 bx) ∧ W.cell? ⟨w.heap.size, 3, none⟩ = some (.int .i64 bY) ∧ W.cell? ⟨w.heap.size + 1, 0, none⟩ = some (.int .i64 px) ∧ W.cell? ⟨w.heap.size + 1, 1, none⟩ = some (.int .i64 py) ∧ W.cell? ⟨w.heap.size + 2, 0, none⟩ = some (.int .i64 qx) ∧ W.cell? ⟨w.heap.size + 2, 1, none⟩ = some (.int .i64 qy) ∧ Below w.heap.size w W ∧ w.heap.size + 3 ≤ W.heap.size)
      case first =>
        obtain ⟨wT, hT⟩ : ∃ W, W = (((w.alloc (.cells #[.int .i64 ax, .int .i64 ay, .int .i64 bx, .int .i64 bY] 37)).alloc (.cells #[.int .i64 px, .int .i64 py] 35)).alloc (.cells #[.int .i64 qx, .int .i64 qy] 35)) := ⟨_, rfl⟩
        have m0 : wT.cell? ⟨w.heap.size, 0, none⟩ = some (.int .i64 ax) := by rw [hT]; go_simp
        have m1 : wT.cell? ⟨w.heap.size, 1, none⟩ = some (.int .i64 ay) := by rw [hT]; go_simp
        have m2 : wT.cell? ⟨w.heap.size, 2, none⟩ = some (.int .i64 bx) := by rw [hT]; go_simp
        have m3 : wT.cell? ⟨w.heap.size, 3, none⟩ = some (.int .i64 bY) := by rw [hT]; go_simp
        have m4 : wT.cell? ⟨w.heap.size + 1, 0, none⟩ = some (.int .i64 px) := by rw [hT]; go_simp
        have m5 : wT.cell? ⟨w.heap.size + 1, 1, none⟩ = some (.int .i64 py) := by rw [hT]; go_simp
        have m6 : wT.cell? ⟨w.heap.size + 1 + 1, 0, none⟩ = some (.int .i64 qx) := by rw [hT]; go_simp
        have m7 : wT.cell? ⟨w.heap.size + 1 + 1, 1, none⟩ = some (.int .i64 qy) := by rw [hT]; go_simp
        have HBT := hide (show Below w.heap.size w wT by rw [hT]; exact bwz)
        have zT2 : w.heap.size + 1 + 1 < wT.heap.size := by rw [hT]; simp
        have zT1 : w.heap.size + 1 < wT.heap.size := by omega
        have zT0 : w.heap.size < wT.heap.size := by omega
        rw [← hT]
        clear hT
        refine wp_region_held_drew (S := fun W => Below wT.heap.size wT W) (by kernel_rfl) (Below.drew (Below.refl _ _)) (fun hHeld => ?_)
        refine tkL 0 (some 9) rfl ?_; (try simp only [pz])
        refine tkL 1 (some 10) rfl ?_; (try simp only [pz])
        refine tkL 4 (some 13) rfl ?_; (try simp only [pz])
        refine tkL 5 (some 14) rfl ?_; (try simp only [pz])
        refine wpAnyH_ready (rs := [2]) (by kernel_rfl) (by simp) ?_; refine (AllReadyH.cons (o := ⟨some 11, _, _, _, _, _⟩) rfl (fun K hK => ?_) AllReadyH.nil)
        go_simp; (first | (go_at_call 108; (with_reducible refine (K1.out _).mono ?_); rintro e w9 ⟨rfl, hb⟩) | (go_at_call 108; (with_reducible refine (K2.out _).mono ?_); rintro e w9 ⟨rfl, hb⟩))
        all_goals (try go_wp2_with fail)
        refine hK.out _ _ ?_ (fun hH2 => ?_)
        · first | exact bstep hHeld hb | exact hHeld.trans hb | exact hHeld
        clear hK K hHeld; (have hHeld := hH2); clear hH2; (try simp only [pz])
        refine tkN 3 (some 12) rfl ?_; (try simp only [pz])
        refine wpAnyH_ready (rs := [6]) (by kernel_rfl) (by simp) ?_; refine (AllReadyH.cons (o := ⟨some 15, _, _, _, _, _⟩) rfl (fun K hK => ?_) AllReadyH.nil)
        go_simp; (first | (go_at_call 108; (with_reducible refine (K1.out _).mono ?_); rintro e w9 ⟨rfl, hb⟩) | (go_at_call 108; (with_reducible refine (K2.out _).mono ?_); rintro e w9 ⟨rfl, hb⟩))
        all_goals (try go_wp2_with fail)
        refine hK.out _ _ ?_ (fun hH2 => ?_)
        · first | exact bstep hHeld hb | exact hHeld.trans hb | exact hHeld
        clear hK K hHeld; (have hHeld := hH2); clear hH2; (try simp only [pz])
        refine tkN 7 (some 16) rfl ?_; (try simp only [pz])
        refine tkN 8 (some 7) rfl ?_; (try simp only [pz])
        refine tkN 9 (some 8) rfl ?_; (try simp only [pz])
        refine wpAnyH_done (by kernel_rfl) ?_ _; (try simp only [pz])
        go_wp2_with fail
        go_meet
        exact ⟨by simp [*], by simp [*], cell_later hHeld m0, cell_later hHeld m1, cell_later hHeld m2, cell_later hHeld m3, cell_later hHeld m4, cell_later hHeld m5, cell_later hHeld m6, cell_later hHeld m7, bstep HBT.out hHeld, (by have := hHeld.size; omega)⟩
      case rest =>
        obtain ⟨rfl, rfl, m0, m1, m2, m3, m4, m5, m6, m7, kB, kz⟩ := hcut
        have HBT := hide kB
        have zT2 : w.heap.size + 1 + 1 < wc.heap.size := by omega
        have zT1 : w.heap.size + 1 < wc.heap.size := by omega
        have zT0 : w.heap.size < wc.heap.size := by omega
        clear kB
        go_upto_region 2 with fail
        refine wp_region_held_drew (S := fun W => Below wc.heap.size wc W) (by kernel_rfl) (Below.drew (Below.refl _ _)) (fun hHeld => ?_)
        refine tkN 0 (some 17) rfl ?_; (try simp only [pz])
        refine tkN 1 (some 18) rfl ?_; (try simp only [pz])
        refine tkN 2 (some 19) rfl ?_; (try simp only [pz])
        refine tkN 3 (some 20) rfl ?_; (try simp only [pz])
        refine tkO 4 (some 21) rfl ?_; (try simp only [pz])
        refine tkO 5 (some 22) rfl ?_; (try simp only [pz])
        refine tkO 6 (some 23) rfl ?_; (try simp only [pz])
        refine tkO 7 (some 24) rfl ?_; (try simp only [pz])
        refine tkO 8 (some 25) rfl ?_; (try simp only [pz])
        refine tkO 9 (some 26) rfl ?_; (try simp only [pz])
        refine tkO 10 (some 27) rfl ?_; (try simp only [pz])
        refine tkO 11 (some 28) rfl ?_; (try simp only [pz])
        refine tkO 12 (some 29) rfl ?_; (try simp only [pz])
        refine tkO 13 (some 30) rfl ?_; (try simp only [pz])
        refine tkO 14 (some 31) rfl ?_; (try simp only [pz])
        refine tkO 15 (some 32) rfl ?_; (try simp only [pz])
        refine tkN 16 (some 33) rfl ?_; (try simp only [pz])
        refine wpAnyH_done (by kernel_rfl) ?_ _; (try simp only [pz])
        go_wp2
        go_ret
        exact ⟨by rw [Hr9.out, d1.out, d2.out]; rfl, bstep HBT.out hHeld⟩
end Go.Proofs.YtiokigjnacmilaaGreatDoor
