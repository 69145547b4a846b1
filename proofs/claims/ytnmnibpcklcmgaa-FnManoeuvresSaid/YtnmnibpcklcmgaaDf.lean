/- Walks: what the laws on tracks begin with. -/
import Derived.Test.YtnmnibpcklcmgaaDe
import Derived.Test.YtnmnibpcklcmgaaIx
namespace Go.Proofs.Ytnmnibpcklcmgaa
open Go.RowKit

/-- A wind and a track; a time and a span besides. -/
def MvD (e : Ending) (w' : World) : Prop := ∃ (wx wy : Int) (so : Option Addr) (n cap : Nat) (T X Y : Nat → Int), e = .returned (.tuple #[.agg #[.int .i64 wx, .int .i64 wy], .agg #[.slice so n cap]]) ∧ n ≤ 41 ∧ RowAt w' so n 3 (v3 T X Y)
def TuD (e : Ending) (w' : World) : Prop := ∃ (wx wy time span : Int) (so : Option Addr) (n cap : Nat) (T X Y : Nat → Int), e = .returned (.tuple #[.agg #[.int .i64 wx, .int .i64 wy], .agg #[.slice so n cap], .int .i64 time, .int .i64 span]) ∧ n ≤ 41 ∧ RowAt w' so n 3 (v3 T X Y)

set_option maxRecDepth 100000 in
set_option maxHeartbeats 8000000 in
theorem spec_DrawManoeuvresOf (so : Option Addr) (n cap : Nat) (B : Nat → Int) (w : World) (h : RowAt w so n 1 (vb B)) (hB : ∀ i, 0 ≤ B i ∧ B i ≤ 255) (hn : n ≤ 1048576) :
    Calls Try.prog 8 #[.slice so n cap] w fun e w' => MvD e w' ∧ Below w.heap.size w w' := by
  go_enter Try.func8, Try.ntmps8
  go_wp2_with fail; (with_reducible refine (spec_l01From so n cap B _ (RowAt.later (by repeat (first | with_reducible exact Below.refl _ _ | with_reducible assumption | with_reducible refine Below.drew ?_ | with_reducible refine below_drewN ?_ _ | with_reducible refine Below.setCell ?_ (by first | exact Nat.le_refl _ | (simp; done) | (simp; omega) | (dsimp only; omega)) _ | with_reducible refine Below.alloc ?_ (by first | exact Nat.le_refl _ | (simp; done) | (simp; omega) | (simp at *; omega)) _ | with_reducible refine bstep ?_ (by assumption))) h) hB hn).mono ?_); rintro e w1 ⟨rfl, hs1, hb1⟩
  obtain ⟨hc1, hf1⟩ := bcell hb1
  simp only [size_al] at hs1
  have hz1 := hb1.size
  simp only [size_al] at hz1
  have z0 : w.heap.size < w1.heap.size := by omega
  have z1 : w.heap.size + 1 < w1.heap.size := by omega
  have ra0_0 : w1.cell? ⟨w.heap.size, 0, none⟩ = some (.int .i64 0) := by rw [hc1 _ _ (by first | (simp; done) | (simp; omega))]; go_simp
  have rb0_0 : w1.frozen? ⟨w.heap.size, 0, none⟩ = false := by rw [hf1 _ _ (by first | (simp; done) | (simp; omega))]; go_simp
  have ra0_1 : w1.cell? ⟨w.heap.size, 1, none⟩ = some (.int .i64 0) := by rw [hc1 _ _ (by first | (simp; done) | (simp; omega))]; go_simp
  have rb0_1 : w1.frozen? ⟨w.heap.size, 1, none⟩ = false := by rw [hf1 _ _ (by first | (simp; done) | (simp; omega))]; go_simp
  have ra1_0 : w1.cell? ⟨w.heap.size + 1, 0, none⟩ = some (.slice none 0 0) := by rw [hc1 _ _ (by first | (simp; done) | (simp; omega))]; go_simp
  have rb1_0 : w1.frozen? ⟨w.heap.size + 1, 0, none⟩ = false := by rw [hf1 _ _ (by first | (simp; done) | (simp; omega))]; go_simp
  have HB1 := hide (show Below w.heap.size w w1 from (by repeat (first | with_reducible exact Below.refl _ _ | with_reducible assumption | with_reducible refine Below.drew ?_ | with_reducible refine below_drewN ?_ _ | with_reducible refine Below.setCell ?_ (by first | exact Nat.le_refl _ | (simp; done) | (simp; omega) | (dsimp only; omega)) _ | with_reducible refine Below.alloc ?_ (by first | exact Nat.le_refl _ | (simp; done) | (simp; omega) | (simp at *; omega)) _ | with_reducible refine bstep ?_ (by assumption))))
  clear hc1 hf1
  obtain ⟨g, hg⟩ : ∃ g, g = w.heap.size + 1 + 1 := ⟨_, rfl⟩
  simp only [size_al]
  rw [← hg] at hs1 ⊢
  have gl : w.heap.size ≤ g := by omega
  have g0 : ¬ w.heap.size = g := by omega
  have g1 : ¬ w.heap.size + 1 = g := by omega
  have lg0 := Src.lt hs1
  clear hg
  go_wp2_with fail; (with_reducible refine (spec_l08DrawAny g _ (by repeat (first | with_reducible assumption | with_reducible refine Src.alloc ?_ _ | with_reducible refine Src.drewN ?_ _ | with_reducible refine Src.drew ?_ | with_reducible refine Src.set (by first | (dsimp only; omega) | (simp; omega)) ?_))).mono ?_); rintro e w2 ⟨⟨wx, wy, rfl⟩, hg2, hs2⟩; have hc2 := gcell hg2; have hf2 := gfroz hg2; have lg2 := Src.lt hs2; have nga2 : ¬ w2.heap.size = g := (by omega); have ngb2 : ¬ g = w2.heap.size := (by omega); have hzs2 := hg2.size; (try simp at hzs2); have zx2_0 : w.heap.size < w2.heap.size := (by first | omega | (simp at hzs2; omega)); have zy2_0 : w.heap.size < w2.heap.size + 1 := (by omega); have zw2_0 : ¬ w2.heap.size = w.heap.size := (by omega); have zv2_0 : ¬ w.heap.size = w2.heap.size := (by omega); have zu2_0 : w.heap.size < w2.heap.size + 1 + 1 := (by omega); have zt2_0 : ¬ w2.heap.size + 1 = w.heap.size := (by omega); have zr2_0 : ¬ w.heap.size = w2.heap.size + 1 := (by omega); have zx2_1 : w.heap.size + 1 < w2.heap.size := (by first | omega | (simp at hzs2; omega)); have zy2_1 : w.heap.size + 1 < w2.heap.size + 1 := (by omega); have zw2_1 : ¬ w2.heap.size = w.heap.size + 1 := (by omega); have zv2_1 : ¬ w.heap.size + 1 = w2.heap.size := (by omega); have zu2_1 : w.heap.size + 1 < w2.heap.size + 1 + 1 := (by omega); have zt2_1 : ¬ w2.heap.size + 1 = w.heap.size + 1 := (by omega); have zr2_1 : ¬ w.heap.size + 1 = w2.heap.size + 1 := (by omega)
  have HB2 := hide (below_gr HB1.out hg2 (by omega) gl)
  go_wp2_with fail; (with_reducible refine (spec_l03DrawAny g _ (by repeat (first | with_reducible assumption | with_reducible refine Src.alloc ?_ _ | with_reducible refine Src.drewN ?_ _ | with_reducible refine Src.drew ?_ | with_reducible refine Src.set (by first | (dsimp only; omega) | (simp; omega)) ?_))).mono ?_); rintro e w3 ⟨⟨so9, n9, cap9, L9, rfl, q1, q2, q3, ho⟩, hg3, hs3⟩; have hc3 := gcell hg3; have hf3 := gfroz hg3; have lg3 := Src.lt hs3; have nga3 : ¬ w3.heap.size = g := (by omega); have ngb3 : ¬ g = w3.heap.size := (by omega); have hzs3 := hg3.size; (try simp at hzs3); have zx3_0 : w.heap.size < w3.heap.size := (by first | omega | (simp at hzs3; omega)); have zy3_0 : w.heap.size < w3.heap.size + 1 := (by omega); have zw3_0 : ¬ w3.heap.size = w.heap.size := (by omega); have zv3_0 : ¬ w.heap.size = w3.heap.size := (by omega); have zu3_0 : w.heap.size < w3.heap.size + 1 + 1 := (by omega); have zt3_0 : ¬ w3.heap.size + 1 = w.heap.size := (by omega); have zr3_0 : ¬ w.heap.size = w3.heap.size + 1 := (by omega); have zx3_1 : w.heap.size + 1 < w3.heap.size := (by first | omega | (simp at hzs3; omega)); have zy3_1 : w.heap.size + 1 < w3.heap.size + 1 := (by omega); have zw3_1 : ¬ w3.heap.size = w.heap.size + 1 := (by omega); have zv3_1 : ¬ w.heap.size + 1 = w3.heap.size := (by omega); have zu3_1 : w.heap.size + 1 < w3.heap.size + 1 + 1 := (by omega); have zt3_1 : ¬ w3.heap.size + 1 = w.heap.size + 1 := (by omega); have zr3_1 : ¬ w.heap.size + 1 = w3.heap.size + 1 := (by omega)
  have HB3 := below_gr HB2.out hg3 (by omega) gl
  have Ho := hide ho
  clear ho
  go_wp2
  simp [bodyPost, results, Try.results8, go_sem, *]
  exact ⟨⟨_, _, _, _, _, _, _, _, rfl, q2, (OwnI.far (OwnI.far (OwnI.far Ho.out (by omega)) (by omega)) (by omega)).row3⟩, (by repeat (first | with_reducible exact Below.refl _ _ | with_reducible assumption | with_reducible refine Below.drew ?_ | with_reducible refine below_drewN ?_ _ | with_reducible refine Below.setCell ?_ (by first | exact Nat.le_refl _ | (simp; done) | (simp; omega) | (dsimp only; omega)) _ | with_reducible refine Below.alloc ?_ (by first | exact Nat.le_refl _ | (simp; done) | (simp; omega) | (simp at *; omega)) _ | with_reducible refine bstep ?_ (by assumption)))⟩
set_option maxRecDepth 100000 in
set_option maxHeartbeats 8000000 in
theorem spec_DrawTurningAt (so : Option Addr) (n cap : Nat) (B : Nat → Int) (w : World) (h : RowAt w so n 1 (vb B)) (hB : ∀ i, 0 ≤ B i ∧ B i ≤ 255) (hn : n ≤ 1048576) :
    Calls Try.prog 12 #[.slice so n cap] w fun e w' => TuD e w' ∧ Below w.heap.size w w' := by
  go_enter Try.func12, Try.ntmps12
  go_wp2_with fail; (with_reducible refine (spec_l01From so n cap B _ (RowAt.later (by repeat (first | with_reducible exact Below.refl _ _ | with_reducible assumption | with_reducible refine Below.drew ?_ | with_reducible refine below_drewN ?_ _ | with_reducible refine Below.setCell ?_ (by first | exact Nat.le_refl _ | (simp; done) | (simp; omega) | (dsimp only; omega)) _ | with_reducible refine Below.alloc ?_ (by first | exact Nat.le_refl _ | (simp; done) | (simp; omega) | (simp at *; omega)) _ | with_reducible refine bstep ?_ (by assumption))) h) hB hn).mono ?_); rintro e w1 ⟨rfl, hs1, hb1⟩
  obtain ⟨hc1, hf1⟩ := bcell hb1
  simp only [size_al] at hs1
  have hz1 := hb1.size
  simp only [size_al] at hz1
  have z0 : w.heap.size < w1.heap.size := by omega
  have z1 : w.heap.size + 1 < w1.heap.size := by omega
  have ra0_0 : w1.cell? ⟨w.heap.size, 0, none⟩ = some (.int .i64 0) := by rw [hc1 _ _ (by first | (simp; done) | (simp; omega))]; go_simp
  have rb0_0 : w1.frozen? ⟨w.heap.size, 0, none⟩ = false := by rw [hf1 _ _ (by first | (simp; done) | (simp; omega))]; go_simp
  have ra0_1 : w1.cell? ⟨w.heap.size, 1, none⟩ = some (.int .i64 0) := by rw [hc1 _ _ (by first | (simp; done) | (simp; omega))]; go_simp
  have rb0_1 : w1.frozen? ⟨w.heap.size, 1, none⟩ = false := by rw [hf1 _ _ (by first | (simp; done) | (simp; omega))]; go_simp
  have ra1_0 : w1.cell? ⟨w.heap.size + 1, 0, none⟩ = some (.slice none 0 0) := by rw [hc1 _ _ (by first | (simp; done) | (simp; omega))]; go_simp
  have rb1_0 : w1.frozen? ⟨w.heap.size + 1, 0, none⟩ = false := by rw [hf1 _ _ (by first | (simp; done) | (simp; omega))]; go_simp
  have HB1 := hide (show Below w.heap.size w w1 from (by repeat (first | with_reducible exact Below.refl _ _ | with_reducible assumption | with_reducible refine Below.drew ?_ | with_reducible refine below_drewN ?_ _ | with_reducible refine Below.setCell ?_ (by first | exact Nat.le_refl _ | (simp; done) | (simp; omega) | (dsimp only; omega)) _ | with_reducible refine Below.alloc ?_ (by first | exact Nat.le_refl _ | (simp; done) | (simp; omega) | (simp at *; omega)) _ | with_reducible refine bstep ?_ (by assumption))))
  clear hc1 hf1
  obtain ⟨g, hg⟩ : ∃ g, g = w.heap.size + 1 + 1 := ⟨_, rfl⟩
  simp only [size_al]
  rw [← hg] at hs1 ⊢
  have gl : w.heap.size ≤ g := by omega
  have g0 : ¬ w.heap.size = g := by omega
  have g1 : ¬ w.heap.size + 1 = g := by omega
  have lg0 := Src.lt hs1
  clear hg
  go_wp2_with fail; (with_reducible refine (spec_l03DrawAny g _ (by repeat (first | with_reducible assumption | with_reducible refine Src.alloc ?_ _ | with_reducible refine Src.drewN ?_ _ | with_reducible refine Src.drew ?_ | with_reducible refine Src.set (by first | (dsimp only; omega) | (simp; omega)) ?_))).mono ?_); rintro e w2 ⟨⟨so9, n9, cap9, L9, rfl, q1, q2, q3, ho⟩, hg2, hs2⟩; have hc2 := gcell hg2; have hf2 := gfroz hg2; have lg2 := Src.lt hs2; have nga2 : ¬ w2.heap.size = g := (by omega); have ngb2 : ¬ g = w2.heap.size := (by omega); have hzs2 := hg2.size; (try simp at hzs2); have zx2_0 : w.heap.size < w2.heap.size := (by first | omega | (simp at hzs2; omega)); have zy2_0 : w.heap.size < w2.heap.size + 1 := (by omega); have zw2_0 : ¬ w2.heap.size = w.heap.size := (by omega); have zv2_0 : ¬ w.heap.size = w2.heap.size := (by omega); have zu2_0 : w.heap.size < w2.heap.size + 1 + 1 := (by omega); have zt2_0 : ¬ w2.heap.size + 1 = w.heap.size := (by omega); have zr2_0 : ¬ w.heap.size = w2.heap.size + 1 := (by omega); have zx2_1 : w.heap.size + 1 < w2.heap.size := (by first | omega | (simp at hzs2; omega)); have zy2_1 : w.heap.size + 1 < w2.heap.size + 1 := (by omega); have zw2_1 : ¬ w2.heap.size = w.heap.size + 1 := (by omega); have zv2_1 : ¬ w.heap.size + 1 = w2.heap.size := (by omega); have zu2_1 : w.heap.size + 1 < w2.heap.size + 1 + 1 := (by omega); have zt2_1 : ¬ w2.heap.size + 1 = w.heap.size + 1 := (by omega); have zr2_1 : ¬ w.heap.size + 1 = w2.heap.size + 1 := (by omega)
  have HB2 := hide (below_gr HB1.out hg2 (by omega) gl)
  have Ho := hide ho
  clear ho
  go_upto_region 3 with fail
  obtain ⟨wB, hB9⟩ : ∃ W, W = w2.alloc (.cells #[.slice so9 n9 cap9] 28) := ⟨_, rfl⟩
  have szB : wB.heap.size = w2.heap.size + 1 := by rw [hB9]; simp
  have sB : Src wB g := by rw [hB9]; exact (by repeat (first | with_reducible assumption | with_reducible refine Src.alloc ?_ _ | with_reducible refine Src.drewN ?_ _ | with_reducible refine Src.drew ?_ | with_reducible refine Src.set (by first | (dsimp only; omega) | (simp; omega)) ?_))
  have HBB := hide (show Below w.heap.size w wB by rw [hB9]; exact Below.alloc HB2.out (by omega) _)
  have HoB := hide (show OwnI 3 2000000000 wB w1.heap.size L9 n9 so9 by rw [hB9]; exact Ho.out.later (Below.alloc (Below.refl _ _) (Nat.le_refl _) _))
  have t0 : wB.cell? ⟨w2.heap.size, 0, none⟩ = some (.slice so9 n9 cap9) := by rw [hB9]; go_simp
  have rc0_0 : wB.cell? ⟨w.heap.size, 0, none⟩ = some (.int .i64 0) := by rw [hB9]; go_simp
  have rd0_0 : wB.frozen? ⟨w.heap.size, 0, none⟩ = false := by rw [hB9]; go_simp
  have rc0_1 : wB.cell? ⟨w.heap.size, 1, none⟩ = some (.int .i64 0) := by rw [hB9]; go_simp
  have rd0_1 : wB.frozen? ⟨w.heap.size, 1, none⟩ = false := by rw [hB9]; go_simp
  have rc1_0 : wB.cell? ⟨w.heap.size + 1, 0, none⟩ = some (.slice none 0 0) := by rw [hB9]; go_simp
  have rd1_0 : wB.frozen? ⟨w.heap.size + 1, 0, none⟩ = false := by rw [hB9]; go_simp
  rw [← hB9]
  clear hB9 ra0_0 rb0_0 ra0_1 rb0_1 ra1_0 rb1_0 hc2 hf2 hg2 hs2 hs1
  have zb0 : w.heap.size < wB.heap.size := by omega
  have zb1 : w.heap.size + 1 < wB.heap.size := by omega
  have zb2 : w2.heap.size < wB.heap.size := by omega
  have hgB := World.grownBy.refl wB (some g)
  have HwE : World.grownBy wB wB (some g) := (by repeat (first | with_reducible exact World.grownBy.refl _ _ | with_reducible assumption | with_reducible refine gr_alloc ?_ _ | with_reducible refine gr_drew ?_ | with_reducible refine gr_drewN ?_ _ | with_reducible refine gr_new ?_ (by first | exact Nat.le_refl _ | (dsimp only; omega) | (simp; omega)) | with_reducible refine gr_step ?_ (by assumption)))
  have HcE0 : World.cell? wB ⟨w2.heap.size, 0, none⟩ = some (.slice so9 n9 cap9) := (by go_simp)
  refine wp_region_held_drew (S := fun W => W.cell? ⟨w2.heap.size, 0, none⟩ = some (.slice so9 n9 cap9) ∧ True) (by kernel_rfl) ⟨HcE0, trivial⟩ (fun hHeld => ?_)
  refine wpAnyH_take (i := 0) (oi := ⟨some 12, _, _, _, _, _⟩) (v := ?_) rfl (by kernel_rfl) (by kernel_rfl) (by kernel_rfl) (fun _ _ _ h => h) (Or.inl ⟨by kernel_rfl, ?_⟩) (by assumption) ?_; rotate_left; focus (intro W0 hSw; (try dsimp only at hSw); go_simp; (try with_reducible rfl)); (try simp only [Act.put, List.setIfInBounds_toArray, List.set_cons_zero, List.set_cons_succ])
  refine wpAnyH_take (i := 2) (oi := ⟨some 14, _, _, _, _, _⟩) (v := ?_) rfl (by kernel_rfl) (by kernel_rfl) (by kernel_rfl) (fun _ _ _ h => h) (Or.inl ⟨by kernel_rfl, ?_⟩) (by assumption) ?_; rotate_left; focus (intro W0 hSw; (try dsimp only at hSw); go_simp; (try with_reducible rfl)); (try simp only [Act.put, List.setIfInBounds_toArray, List.set_cons_zero, List.set_cons_succ])
  refine wpAnyH_take (i := 3) (oi := ⟨some 15, _, _, _, _, _⟩) (v := ?_) rfl (by kernel_rfl) (by kernel_rfl) (by kernel_rfl) (fun _ _ _ h => h) (Or.inl ⟨by kernel_rfl, ?_⟩) (by assumption) ?_; rotate_left; focus (intro W0 hSw; (try dsimp only at hSw); go_simp; (try with_reducible rfl)); (try simp only [Act.put, List.setIfInBounds_toArray, List.set_cons_zero, List.set_cons_succ])
  refine wpAnyH_take (i := 4) (oi := ⟨some 16, _, _, _, _, _⟩) (v := ?_) rfl (by kernel_rfl) (by kernel_rfl) (by kernel_rfl) (fun _ _ _ h => h) (Or.inl ⟨by kernel_rfl, ?_⟩) (by assumption) ?_; rotate_left; focus (intro W0 hSw; (try dsimp only at hSw); go_simp; (try with_reducible rfl)); (try simp only [Act.put, List.setIfInBounds_toArray, List.set_cons_zero, List.set_cons_succ])
  refine wpAnyH_take (i := 6) (oi := ⟨some 18, _, _, _, _, _⟩) (v := ?_) rfl (by kernel_rfl) (by kernel_rfl) (by kernel_rfl) (fun _ _ _ h => h) (Or.inl ⟨by kernel_rfl, ?_⟩) (by assumption) ?_; rotate_left; focus (intro W0 hSw; (try dsimp only at hSw); go_simp; (try with_reducible rfl)); (try simp only [Act.put, List.setIfInBounds_toArray, List.set_cons_zero, List.set_cons_succ])
  refine wpAnyH_inv3 (fuel := 4) [1, 5, 7] [] [13, 17, 19] (fun u L W => (World.grownBy wB W (some g) ∧ Src W g) ∧ (L 1 → FAgg2 (u 13)) ∧ (L 5 → FInt (u 17)) ∧ (L 7 → FInt (u 19)) ∧ True) (by decide) (by kernel_rfl) (by kernel_rfl) (fun _ _ _ _ _ h => h) (fun u L W hJ => ⟨cell_grown hJ.1.1 (by omega) HcE0, trivial⟩) (fun u L hL => ⟨⟨gr_drew (World.grownBy.refl _ _), by assumption⟩, fun k => absurd k (hL 1 (by decide)), fun k => absurd k (hL 5 (by decide)), fun k => absurd k (hL 7 (by decide)), trivial⟩) ?_ ?_ ?_
  · refine StepsH.cons (d := 13) (o := ⟨some 13, _, _, _, _, _⟩) rfl rfl (by kernel_rfl) ?_ ?_
    rotate_left
    refine StepsH.cons (d := 17) (o := ⟨some 17, _, _, _, _, _⟩) rfl rfl (by kernel_rfl) ?_ ?_
    rotate_left
    refine StepsH.cons (d := 19) (o := ⟨some 19, _, _, _, _, _⟩) rfl rfl (by kernel_rfl) ?_ ?_
    rotate_left
    exact StepsH.nil
    · intro u L W hn hd hJ
      obtain ⟨hk, f13, f17, f19, _⟩ := hJ
      have hnd := hk.2
      intro K hK
      simp only [puts, Act.put, List.setIfInBounds_toArray, List.set_cons_zero, List.set_cons_succ]
      go_simp; (first | (go_at_call 27; (with_reducible refine (spec_l08DrawAny g _ hnd).mono ?_); rintro e w9 ⟨⟨xx, yy, rfl⟩, hg, hs⟩) | (go_at_call 37; (with_reducible refine (spec_l03DrawTime g _ _ _ _ _ _ hnd (HoB.out.grown hk.1 (by omega)) q2 (by omega)).mono ?_); rintro e w9 ⟨⟨xx, rfl⟩, hg, hs⟩) | (go_at_call 38; (with_reducible refine (spec_l10DrawSpan g _ hnd).mono ?_); rintro e w9 ⟨⟨xx, rfl⟩, hg, hs⟩))
      all_goals (try go_wp2_with fail)
      all_goals
        apply Shut.go3 (W := W) (g := g) hK
        · simp only [puts, Act.put, List.setIfInBounds_toArray, List.set_cons_zero, List.set_cons_succ]; rfl
        · first | with_reducible assumption | with_reducible exact World.grownBy.refl _ _ | exact World.grownBy_alloc _ _ _
        · first | with_reducible assumption | exact Src.alloc hnd _
        · intro hg hs; exact ⟨Dr.step hk hg hs, fun _ => by rw [upd_same]; exact ⟨_, _, rfl⟩, fun k => by rw [upd_ne u _ (by decide)]; exact (f17 (k.resolve_left (by decide))), fun k => by rw [upd_ne u _ (by decide)]; exact (f19 (k.resolve_left (by decide))), trivial⟩
    · intro u L W hn hd hJ
      obtain ⟨hk, f13, f17, f19, _⟩ := hJ
      have hnd := hk.2
      intro K hK
      simp only [puts, Act.put, List.setIfInBounds_toArray, List.set_cons_zero, List.set_cons_succ]
      go_simp; (first | (go_at_call 27; (with_reducible refine (spec_l08DrawAny g _ hnd).mono ?_); rintro e w9 ⟨⟨xx, yy, rfl⟩, hg, hs⟩) | (go_at_call 37; (with_reducible refine (spec_l03DrawTime g _ _ _ _ _ _ hnd (HoB.out.grown hk.1 (by omega)) q2 (by omega)).mono ?_); rintro e w9 ⟨⟨xx, rfl⟩, hg, hs⟩) | (go_at_call 38; (with_reducible refine (spec_l10DrawSpan g _ hnd).mono ?_); rintro e w9 ⟨⟨xx, rfl⟩, hg, hs⟩))
      all_goals (try go_wp2_with fail)
      all_goals
        apply Shut.go3 (W := W) (g := g) hK
        · simp only [puts, Act.put, List.setIfInBounds_toArray, List.set_cons_zero, List.set_cons_succ]; rfl
        · first | with_reducible assumption | with_reducible exact World.grownBy.refl _ _ | exact World.grownBy_alloc _ _ _
        · first | with_reducible assumption | exact Src.alloc hnd _
        · intro hg hs; exact ⟨Dr.step hk hg hs, fun k => by rw [upd_ne u _ (by decide)]; exact (f13 (k.resolve_left (by decide))), fun _ => by rw [upd_same]; exact ⟨_, rfl⟩, fun k => by rw [upd_ne u _ (by decide)]; exact (f19 (k.resolve_left (by decide))), trivial⟩
    · intro u L W hn hd hJ
      obtain ⟨hk, f13, f17, f19, _⟩ := hJ
      have hnd := hk.2
      intro K hK
      simp only [puts, Act.put, List.setIfInBounds_toArray, List.set_cons_zero, List.set_cons_succ]
      go_simp; (first | (go_at_call 27; (with_reducible refine (spec_l08DrawAny g _ hnd).mono ?_); rintro e w9 ⟨⟨xx, yy, rfl⟩, hg, hs⟩) | (go_at_call 37; (with_reducible refine (spec_l03DrawTime g _ _ _ _ _ _ hnd (HoB.out.grown hk.1 (by omega)) q2 (by omega)).mono ?_); rintro e w9 ⟨⟨xx, rfl⟩, hg, hs⟩) | (go_at_call 38; (with_reducible refine (spec_l10DrawSpan g _ hnd).mono ?_); rintro e w9 ⟨⟨xx, rfl⟩, hg, hs⟩))
      all_goals (try go_wp2_with fail)
      all_goals
        apply Shut.go3 (W := W) (g := g) hK
        · simp only [puts, Act.put, List.setIfInBounds_toArray, List.set_cons_zero, List.set_cons_succ]; rfl
        · first | with_reducible assumption | with_reducible exact World.grownBy.refl _ _ | exact World.grownBy_alloc _ _ _
        · first | with_reducible assumption | exact Src.alloc hnd _
        · intro hg hs; exact ⟨Dr.step hk hg hs, fun k => by rw [upd_ne u _ (by decide)]; exact (f13 (k.resolve_left (by decide))), fun k => by rw [upd_ne u _ (by decide)]; exact (f17 (k.resolve_left (by decide))), fun _ => by rw [upd_same]; exact ⟨_, rfl⟩, trivial⟩
  · exact PuresH.nil
  · intro u L W hJ hL
    obtain ⟨hk, f13, f17, f19, _⟩ := hJ
    obtain ⟨x13_0, x13_1, e13⟩ := f13 (hL 1 (by kernel_rfl))
    obtain ⟨x17, e17⟩ := f17 (hL 5 (by kernel_rfl))
    obtain ⟨x19, e19⟩ := f19 (hL 7 (by kernel_rfl))
    clear hHeld; have hcW := gcell hk.1; have hfW := gfroz hk.1; have hHeld := trivial; have lW := hk.1.size
    clear f13
    clear f17
    clear f19
    simp only [puts, Act.put, List.setIfInBounds_toArray, List.set_cons_zero, List.set_cons_succ, setAll, Array.replicate, e13, e17, e19]
    refine wpAnyH_ready (rs := [8]) (by kernel_rfl) (by simp) ?_; refine (AllReadyH.cons (o := ⟨none, _, _, _, _, _⟩) rfl (fun K hK => ?_) AllReadyH.nil)
    go_simp
    all_goals (try go_wp2_with fail)
    refine hK.out _ _ ?_ (fun hH2 => ?_)
    · exact ⟨(by go_simp; done), trivial⟩
    clear hK K hHeld; (have hHeld := hH2.2); clear hH2; (try simp only [Act.put])
    refine wpAnyH_ready (rs := [9]) (by kernel_rfl) (by simp) ?_; refine (AllReadyH.cons (o := ⟨none, _, _, _, _, _⟩) rfl (fun K hK => ?_) AllReadyH.nil)
    go_simp
    all_goals (try go_wp2_with fail)
    refine hK.out _ _ ?_ (fun hH2 => ?_)
    · exact ⟨(by go_simp; done), trivial⟩
    clear hK K hHeld; (have hHeld := hH2.2); clear hH2; (try simp only [Act.put])
    refine wpAnyH_ready (rs := [10]) (by kernel_rfl) (by simp) ?_; refine (AllReadyH.cons (o := ⟨some 4, _, _, _, _, _⟩) rfl (fun K hK => ?_) AllReadyH.nil)
    go_simp
    all_goals (try go_wp2_with fail)
    refine hK.out _ _ ?_ (fun hH2 => ?_)
    · exact ⟨(by go_simp; done), trivial⟩
    clear hK K hHeld; (have hHeld := hH2.2); clear hH2; (try simp only [Act.put])
    refine wpAnyH_ready (rs := [11]) (by kernel_rfl) (by simp) ?_; refine (AllReadyH.cons (o := ⟨some 5, _, _, _, _, _⟩) rfl (fun K hK => ?_) AllReadyH.nil)
    go_simp
    all_goals (try go_wp2_with fail)
    refine hK.out _ _ ?_ (fun hH2 => ?_)
    · exact ⟨(by go_simp; done), trivial⟩
    clear hK K hHeld; (have hHeld := hH2.2); clear hH2; (try simp only [Act.put])
    refine wpAnyH_done (by kernel_rfl) ?_ _; (try simp only [Act.put, List.setIfInBounds_toArray, List.set_cons_zero, List.set_cons_succ])
    have HoE := hide (HoB.out.grown hk.1 (by omega))
    have zE := hk.1.size
    have HBE := below_gr HBB.out hk.1 (by omega) gl
    go_wp2
    simp [bodyPost, results, Try.results12, go_sem, *]
    exact ⟨⟨_, _, _, _, _, _, _, _, _, _, rfl, q2, (OwnI.far (OwnI.far (OwnI.far HoE.out (by omega)) (by omega)) (by omega)).row3⟩, (by repeat (first | with_reducible exact Below.refl _ _ | with_reducible assumption | with_reducible refine Below.drew ?_ | with_reducible refine below_drewN ?_ _ | with_reducible refine Below.setCell ?_ (by first | exact Nat.le_refl _ | (simp; done) | (simp; omega) | (dsimp only; omega)) _ | with_reducible refine Below.alloc ?_ (by first | exact Nat.le_refl _ | (simp; done) | (simp; omega) | (simp at *; omega)) _ | with_reducible refine bstep ?_ (by assumption)))⟩
end Go.Proofs.Ytnmnibpcklcmgaa
