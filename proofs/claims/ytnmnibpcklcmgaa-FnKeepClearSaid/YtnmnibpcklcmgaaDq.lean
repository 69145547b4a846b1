/- Walks: points, winds and headings are drawn, second part. -/
import Derived.Test.YtnmnibpcklcmgaaDp
namespace Go.Proofs.Ytnmnibpcklcmgaa
open Go.RowKit

set_option maxRecDepth 100000 in
set_option maxHeartbeats 4000000 in
theorem spec_l01DrawAny (g : Nat) (w : World) (h : Src w g) : Calls Try.prog 107 #[.pointer (some ⟨g, 0, none⟩)] w (PtC w g) := by
  have ng := Src.lt h
  have nz0 : ¬ w.heap.size = g := by omega
  have nz1 : ¬ g = w.heap.size := by omega
  go_enter Try.func107, Try.ntmps107
  go_wp2_with fail; (with_reducible refine (spec_l01DrawPoint g _ (by repeat (first | with_reducible assumption | with_reducible refine Src.alloc ?_ _ | with_reducible refine Src.drewN ?_ _ | with_reducible refine Src.drew ?_ | with_reducible refine Src.set (by first | (dsimp only; omega) | (simp; omega)) ?_))).mono ?_); rintro e w1 ⟨⟨a1, b1, rfl⟩, hg1, hs1⟩; have hc1 := gcell hg1; have hf1 := gfroz hg1; have lg1 := Src.lt hs1; have nga1 : ¬ w1.heap.size = g := (by omega); have ngb1 : ¬ g = w1.heap.size := (by omega); have hzs1 := hg1.size; (try simp at hzs1); have zx1_0 : w.heap.size < w1.heap.size := (by first | omega | (simp at hzs1; omega)); have zy1_0 : w.heap.size < w1.heap.size + 1 := (by omega); have zw1_0 : ¬ w1.heap.size = w.heap.size := (by omega); have zv1_0 : ¬ w.heap.size = w1.heap.size := (by omega); have zu1_0 : w.heap.size < w1.heap.size + 1 + 1 := (by omega); have zt1_0 : ¬ w1.heap.size + 1 = w.heap.size := (by omega); have zr1_0 : ¬ w.heap.size = w1.heap.size + 1 := (by omega)
  go_wp2_with fail; (with_reducible refine (spec_l01Next g _ _ (by repeat (first | with_reducible assumption | with_reducible refine Src.alloc ?_ _ | with_reducible refine Src.drewN ?_ _ | with_reducible refine Src.drew ?_ | with_reducible refine Src.set (by first | (dsimp only; omega) | (simp; omega)) ?_)) (by decide)).mono ?_); rintro e w2 ⟨⟨x2, rfl, hx2⟩, hg2, hs2⟩; have hc2 := gcell hg2; have hf2 := gfroz hg2; have lg2 := Src.lt hs2; have nga2 : ¬ w2.heap.size = g := (by omega); have ngb2 : ¬ g = w2.heap.size := (by omega); have hzs2 := hg2.size; (try simp at hzs2); have zx2_0 : w.heap.size < w2.heap.size := (by first | omega | (simp at hzs2; omega)); have zy2_0 : w.heap.size < w2.heap.size + 1 := (by omega); have zw2_0 : ¬ w2.heap.size = w.heap.size := (by omega); have zv2_0 : ¬ w.heap.size = w2.heap.size := (by omega); have zu2_0 : w.heap.size < w2.heap.size + 1 + 1 := (by omega); have zt2_0 : ¬ w2.heap.size + 1 = w.heap.size := (by omega); have zr2_0 : ¬ w.heap.size = w2.heap.size + 1 := (by omega); have zx2_1 : w1.heap.size < w2.heap.size := (by first | omega | (simp at hzs2; omega)); have zy2_1 : w1.heap.size < w2.heap.size + 1 := (by omega); have zw2_1 : ¬ w2.heap.size = w1.heap.size := (by omega); have zv2_1 : ¬ w1.heap.size = w2.heap.size := (by omega); have zu2_1 : w1.heap.size < w2.heap.size + 1 + 1 := (by omega); have zt2_1 : ¬ w2.heap.size + 1 = w1.heap.size := (by omega); have zr2_1 : ¬ w1.heap.size = w2.heap.size + 1 := (by omega)
  clear hx2
  by_cases k1 : x2 = 0
  · subst k1
    go_wp2_with fail; (with_reducible refine (spec_l01NextN g 2 2 _ (by repeat (first | with_reducible assumption | with_reducible refine Src.alloc ?_ _ | with_reducible refine Src.drewN ?_ _ | with_reducible refine Src.drew ?_ | with_reducible refine Src.set (by first | (dsimp only; omega) | (simp; omega)) ?_)) (by decide) (by decide) (by decide)).mono ?_); rintro e w3 ⟨⟨x3, rfl, hx3⟩, hg3, hs3⟩; have hc3 := gcell hg3; have hf3 := gfroz hg3; have lg3 := Src.lt hs3; have nga3 : ¬ w3.heap.size = g := (by omega); have ngb3 : ¬ g = w3.heap.size := (by omega); have hzs3 := hg3.size; (try simp at hzs3); have zx3_0 : w.heap.size < w3.heap.size := (by first | omega | (simp at hzs3; omega)); have zy3_0 : w.heap.size < w3.heap.size + 1 := (by omega); have zw3_0 : ¬ w3.heap.size = w.heap.size := (by omega); have zv3_0 : ¬ w.heap.size = w3.heap.size := (by omega); have zu3_0 : w.heap.size < w3.heap.size + 1 + 1 := (by omega); have zt3_0 : ¬ w3.heap.size + 1 = w.heap.size := (by omega); have zr3_0 : ¬ w.heap.size = w3.heap.size + 1 := (by omega); have zx3_1 : w1.heap.size < w3.heap.size := (by first | omega | (simp at hzs3; omega)); have zy3_1 : w1.heap.size < w3.heap.size + 1 := (by omega); have zw3_1 : ¬ w3.heap.size = w1.heap.size := (by omega); have zv3_1 : ¬ w1.heap.size = w3.heap.size := (by omega); have zu3_1 : w1.heap.size < w3.heap.size + 1 + 1 := (by omega); have zt3_1 : ¬ w3.heap.size + 1 = w1.heap.size := (by omega); have zr3_1 : ¬ w1.heap.size = w3.heap.size + 1 := (by omega); have zx3_2 : w2.heap.size < w3.heap.size := (by first | omega | (simp at hzs3; omega)); have zy3_2 : w2.heap.size < w3.heap.size + 1 := (by omega); have zw3_2 : ¬ w3.heap.size = w2.heap.size := (by omega); have zv3_2 : ¬ w2.heap.size = w3.heap.size := (by omega); have zu3_2 : w2.heap.size < w3.heap.size + 1 + 1 := (by omega); have zt3_2 : ¬ w3.heap.size + 1 = w2.heap.size := (by omega); have zr3_2 : ¬ w2.heap.size = w3.heap.size + 1 := (by omega)
    rcases (by omega : x3 = 0 ∨ x3 = 1) with rfl | rfl
    all_goals
      go_wp2
      simp [bodyPost, results, Try.results107, go_sem, *]
      exact ⟨⟨_, _, rfl⟩, (by repeat (first | with_reducible exact World.grownBy.refl _ _ | with_reducible assumption | with_reducible refine gr_alloc ?_ _ | with_reducible refine gr_drew ?_ | with_reducible refine gr_drewN ?_ _ | with_reducible refine gr_new ?_ (by first | exact Nat.le_refl _ | (dsimp only; omega) | (simp; omega)) | with_reducible refine gr_step ?_ (by assumption))), (by repeat (first | with_reducible assumption | with_reducible refine Src.alloc ?_ _ | with_reducible refine Src.drewN ?_ _ | with_reducible refine Src.drew ?_ | with_reducible refine Src.set (by first | (dsimp only; omega) | (simp; omega)) ?_))⟩
  · have k2 : (x2 == 0) = false := beq_eq_false_iff_ne.2 k1
    go_wp2
    simp [bodyPost, results, Try.results107, go_sem, *]
    exact ⟨⟨_, _, rfl⟩, (by repeat (first | with_reducible exact World.grownBy.refl _ _ | with_reducible assumption | with_reducible refine gr_alloc ?_ _ | with_reducible refine gr_drew ?_ | with_reducible refine gr_drewN ?_ _ | with_reducible refine gr_new ?_ (by first | exact Nat.le_refl _ | (dsimp only; omega) | (simp; omega)) | with_reducible refine gr_step ?_ (by assumption))), (by repeat (first | with_reducible assumption | with_reducible refine Src.alloc ?_ _ | with_reducible refine Src.drewN ?_ _ | with_reducible refine Src.drew ?_ | with_reducible refine Src.set (by first | (dsimp only; omega) | (simp; omega)) ?_))⟩
set_option maxRecDepth 100000 in
set_option maxHeartbeats 4000000 in
theorem spec_l08Draw (g : Nat) (w : World) (h : Src w g) : Calls Try.prog 57 #[.pointer (some ⟨g, 0, none⟩)] w (PtC w g) := by
  have ng := Src.lt h
  have nz0 : ¬ w.heap.size = g := by omega
  have nz1 : ¬ g = w.heap.size := by omega
  go_enter Try.func57, Try.ntmps57
  go_wp2_with fail; (with_reducible refine (spec_l01Next g _ _ (by repeat (first | with_reducible assumption | with_reducible refine Src.alloc ?_ _ | with_reducible refine Src.drewN ?_ _ | with_reducible refine Src.drew ?_ | with_reducible refine Src.set (by first | (dsimp only; omega) | (simp; omega)) ?_)) (by decide)).mono ?_); rintro e w1 ⟨⟨x1, rfl, hx1⟩, hg1, hs1⟩; have hc1 := gcell hg1; have hf1 := gfroz hg1; have lg1 := Src.lt hs1; have nga1 : ¬ w1.heap.size = g := (by omega); have ngb1 : ¬ g = w1.heap.size := (by omega); have hzs1 := hg1.size; (try simp at hzs1); have zx1_0 : w.heap.size < w1.heap.size := (by first | omega | (simp at hzs1; omega)); have zy1_0 : w.heap.size < w1.heap.size + 1 := (by omega); have zw1_0 : ¬ w1.heap.size = w.heap.size := (by omega); have zv1_0 : ¬ w.heap.size = w1.heap.size := (by omega); have zu1_0 : w.heap.size < w1.heap.size + 1 + 1 := (by omega); have zt1_0 : ¬ w1.heap.size + 1 = w.heap.size := (by omega); have zr1_0 : ¬ w.heap.size = w1.heap.size + 1 := (by omega)
  go_wp2_with fail; (with_reducible refine (spec_l01Next g _ _ (by repeat (first | with_reducible assumption | with_reducible refine Src.alloc ?_ _ | with_reducible refine Src.drewN ?_ _ | with_reducible refine Src.drew ?_ | with_reducible refine Src.set (by first | (dsimp only; omega) | (simp; omega)) ?_)) (by decide)).mono ?_); rintro e w2 ⟨⟨x2, rfl, hx2⟩, hg2, hs2⟩; have hc2 := gcell hg2; have hf2 := gfroz hg2; have lg2 := Src.lt hs2; have nga2 : ¬ w2.heap.size = g := (by omega); have ngb2 : ¬ g = w2.heap.size := (by omega); have hzs2 := hg2.size; (try simp at hzs2); have zx2_0 : w.heap.size < w2.heap.size := (by first | omega | (simp at hzs2; omega)); have zy2_0 : w.heap.size < w2.heap.size + 1 := (by omega); have zw2_0 : ¬ w2.heap.size = w.heap.size := (by omega); have zv2_0 : ¬ w.heap.size = w2.heap.size := (by omega); have zu2_0 : w.heap.size < w2.heap.size + 1 + 1 := (by omega); have zt2_0 : ¬ w2.heap.size + 1 = w.heap.size := (by omega); have zr2_0 : ¬ w.heap.size = w2.heap.size + 1 := (by omega)
  go_wp2_with fail; (with_reducible refine (spec_l01Next g _ _ (by repeat (first | with_reducible assumption | with_reducible refine Src.alloc ?_ _ | with_reducible refine Src.drewN ?_ _ | with_reducible refine Src.drew ?_ | with_reducible refine Src.set (by first | (dsimp only; omega) | (simp; omega)) ?_)) (by decide)).mono ?_); rintro e w3 ⟨⟨x3, rfl, hx3⟩, hg3, hs3⟩; have hc3 := gcell hg3; have hf3 := gfroz hg3; have lg3 := Src.lt hs3; have nga3 : ¬ w3.heap.size = g := (by omega); have ngb3 : ¬ g = w3.heap.size := (by omega); have hzs3 := hg3.size; (try simp at hzs3); have zx3_0 : w.heap.size < w3.heap.size := (by first | omega | (simp at hzs3; omega)); have zy3_0 : w.heap.size < w3.heap.size + 1 := (by omega); have zw3_0 : ¬ w3.heap.size = w.heap.size := (by omega); have zv3_0 : ¬ w.heap.size = w3.heap.size := (by omega); have zu3_0 : w.heap.size < w3.heap.size + 1 + 1 := (by omega); have zt3_0 : ¬ w3.heap.size + 1 = w.heap.size := (by omega); have zr3_0 : ¬ w.heap.size = w3.heap.size + 1 := (by omega); have zx3_1 : w2.heap.size < w3.heap.size := (by first | omega | (simp at hzs3; omega)); have zy3_1 : w2.heap.size < w3.heap.size + 1 := (by omega); have zw3_1 : ¬ w3.heap.size = w2.heap.size := (by omega); have zv3_1 : ¬ w2.heap.size = w3.heap.size := (by omega); have zu3_1 : w2.heap.size < w3.heap.size + 1 + 1 := (by omega); have zt3_1 : ¬ w3.heap.size + 1 = w2.heap.size := (by omega); have zr3_1 : ¬ w2.heap.size = w3.heap.size + 1 := (by omega)
  obtain ⟨p1, p2⟩ := hx1 (by decide)
  obtain ⟨p3, p4⟩ := hx2 (by decide)
  clear hx1 hx2 hx3
  by_cases k1 : x3 = 0
  · subst k1
    go_wp2_with fail; (with_reducible refine (spec_l01Next g _ _ (by repeat (first | with_reducible assumption | with_reducible refine Src.alloc ?_ _ | with_reducible refine Src.drewN ?_ _ | with_reducible refine Src.drew ?_ | with_reducible refine Src.set (by first | (dsimp only; omega) | (simp; omega)) ?_)) (by decide)).mono ?_); rintro e w4 ⟨⟨x4, rfl, hx4⟩, hg4, hs4⟩; have hc4 := gcell hg4; have hf4 := gfroz hg4; have lg4 := Src.lt hs4; have nga4 : ¬ w4.heap.size = g := (by omega); have ngb4 : ¬ g = w4.heap.size := (by omega); have hzs4 := hg4.size; (try simp at hzs4); have zx4_0 : w.heap.size < w4.heap.size := (by first | omega | (simp at hzs4; omega)); have zy4_0 : w.heap.size < w4.heap.size + 1 := (by omega); have zw4_0 : ¬ w4.heap.size = w.heap.size := (by omega); have zv4_0 : ¬ w.heap.size = w4.heap.size := (by omega); have zu4_0 : w.heap.size < w4.heap.size + 1 + 1 := (by omega); have zt4_0 : ¬ w4.heap.size + 1 = w.heap.size := (by omega); have zr4_0 : ¬ w.heap.size = w4.heap.size + 1 := (by omega); have zx4_1 : w2.heap.size < w4.heap.size := (by first | omega | (simp at hzs4; omega)); have zy4_1 : w2.heap.size < w4.heap.size + 1 := (by omega); have zw4_1 : ¬ w4.heap.size = w2.heap.size := (by omega); have zv4_1 : ¬ w2.heap.size = w4.heap.size := (by omega); have zu4_1 : w2.heap.size < w4.heap.size + 1 + 1 := (by omega); have zt4_1 : ¬ w4.heap.size + 1 = w2.heap.size := (by omega); have zr4_1 : ¬ w2.heap.size = w4.heap.size + 1 := (by omega)
    go_wp2_with fail; (with_reducible refine (spec_l01Next g _ _ (by repeat (first | with_reducible assumption | with_reducible refine Src.alloc ?_ _ | with_reducible refine Src.drewN ?_ _ | with_reducible refine Src.drew ?_ | with_reducible refine Src.set (by first | (dsimp only; omega) | (simp; omega)) ?_)) (by decide)).mono ?_); rintro e w5 ⟨⟨x5, rfl, hx5⟩, hg5, hs5⟩; have hc5 := gcell hg5; have hf5 := gfroz hg5; have lg5 := Src.lt hs5; have nga5 : ¬ w5.heap.size = g := (by omega); have ngb5 : ¬ g = w5.heap.size := (by omega); have hzs5 := hg5.size; (try simp at hzs5); have zx5_0 : w.heap.size < w5.heap.size := (by first | omega | (simp at hzs5; omega)); have zy5_0 : w.heap.size < w5.heap.size + 1 := (by omega); have zw5_0 : ¬ w5.heap.size = w.heap.size := (by omega); have zv5_0 : ¬ w.heap.size = w5.heap.size := (by omega); have zu5_0 : w.heap.size < w5.heap.size + 1 + 1 := (by omega); have zt5_0 : ¬ w5.heap.size + 1 = w.heap.size := (by omega); have zr5_0 : ¬ w.heap.size = w5.heap.size + 1 := (by omega); have zx5_1 : w2.heap.size < w5.heap.size := (by first | omega | (simp at hzs5; omega)); have zy5_1 : w2.heap.size < w5.heap.size + 1 := (by omega); have zw5_1 : ¬ w5.heap.size = w2.heap.size := (by omega); have zv5_1 : ¬ w2.heap.size = w5.heap.size := (by omega); have zu5_1 : w2.heap.size < w5.heap.size + 1 + 1 := (by omega); have zt5_1 : ¬ w5.heap.size + 1 = w2.heap.size := (by omega); have zr5_1 : ¬ w2.heap.size = w5.heap.size + 1 := (by omega)
    obtain ⟨p5, p6⟩ := hx4 (by decide)
    obtain ⟨p7, p8⟩ := hx5 (by decide)
    clear hx4 hx5
    go_upto_region 4 with fail
    obtain ⟨wG, hG⟩ : ∃ W, W = (w5.setCell ⟨w2.heap.size, 0, none⟩ (.int .i64 (x4 - 1000))).setCell ⟨w2.heap.size, 1, none⟩ (.int .i64 (x5 - 1000)) := ⟨_, rfl⟩
    have gG : w.grownBy wG (some g) := by rw [hG]; exact (by repeat (first | with_reducible exact World.grownBy.refl _ _ | with_reducible assumption | with_reducible refine gr_alloc ?_ _ | with_reducible refine gr_drew ?_ | with_reducible refine gr_drewN ?_ _ | with_reducible refine gr_new ?_ (by first | exact Nat.le_refl _ | (dsimp only; omega) | (simp; omega)) | with_reducible refine gr_step ?_ (by assumption)))
    have sG : Src wG g := by rw [hG]; exact (by repeat (first | with_reducible assumption | with_reducible refine Src.alloc ?_ _ | with_reducible refine Src.drewN ?_ _ | with_reducible refine Src.drew ?_ | with_reducible refine Src.set (by first | (dsimp only; omega) | (simp; omega)) ?_))
    have c0 : wG.cell? ⟨w2.heap.size, 0, none⟩ = some (.int .i64 (x4 - 1000)) := by rw [hG]; go_simp
    have c1 : wG.cell? ⟨w2.heap.size, 1, none⟩ = some (.int .i64 (x5 - 1000)) := by rw [hG]; go_simp
    have f1 : wG.frozen? ⟨w2.heap.size, 1, none⟩ = false := by rw [hG]; go_simp
    have r0 : wG.cell? ⟨w.heap.size, 0, none⟩ = some (.int .i64 0) := by rw [hG]; go_simp
    have r1 : wG.cell? ⟨w.heap.size, 1, none⟩ = some (.int .i64 0) := by rw [hG]; go_simp
    have s0 : wG.frozen? ⟨w.heap.size, 0, none⟩ = false := by rw [hG]; go_simp
    have s1 : wG.frozen? ⟨w.heap.size, 1, none⟩ = false := by rw [hG]; go_simp
    rw [← hG]
    clear hG
    rcases (by omega : ¬ x4 - 1000 = 0 ∨ (x4 = 1000 ∧ ¬ x5 - 1000 = 0) ∨ (x4 = 1000 ∧ x5 = 1000)) with e | ⟨rfl, e⟩ | ⟨rfl, rfl⟩
    all_goals
      go_wp2
      simp [bodyPost, results, Try.results57, go_sem, *]
      exact ⟨⟨_, _, rfl⟩, (by repeat (first | with_reducible exact World.grownBy.refl _ _ | with_reducible assumption | with_reducible refine gr_alloc ?_ _ | with_reducible refine gr_drew ?_ | with_reducible refine gr_drewN ?_ _ | with_reducible refine gr_new ?_ (by first | exact Nat.le_refl _ | (dsimp only; omega) | (simp; omega)) | with_reducible refine gr_step ?_ (by assumption))), (by repeat (first | with_reducible assumption | with_reducible refine Src.alloc ?_ _ | with_reducible refine Src.drewN ?_ _ | with_reducible refine Src.drew ?_ | with_reducible refine Src.set (by first | (dsimp only; omega) | (simp; omega)) ?_))⟩
  · have k2 : (x3 == 0) = false := beq_eq_false_iff_ne.2 k1
    rcases (by omega : ¬ x1 - 3 = 0 ∨ (x1 = 3 ∧ ¬ x2 - 3 = 0) ∨ (x1 = 3 ∧ x2 = 3)) with e | ⟨rfl, e⟩ | ⟨rfl, rfl⟩
    all_goals
      go_wp2
      simp [bodyPost, results, Try.results57, go_sem, *]
      exact ⟨⟨_, _, rfl⟩, (by repeat (first | with_reducible exact World.grownBy.refl _ _ | with_reducible assumption | with_reducible refine gr_alloc ?_ _ | with_reducible refine gr_drew ?_ | with_reducible refine gr_drewN ?_ _ | with_reducible refine gr_new ?_ (by first | exact Nat.le_refl _ | (dsimp only; omega) | (simp; omega)) | with_reducible refine gr_step ?_ (by assumption))), (by repeat (first | with_reducible assumption | with_reducible refine Src.alloc ?_ _ | with_reducible refine Src.drewN ?_ _ | with_reducible refine Src.drew ?_ | with_reducible refine Src.set (by first | (dsimp only; omega) | (simp; omega)) ?_))⟩
set_option maxRecDepth 100000 in
set_option maxHeartbeats 4000000 in
theorem spec_l08DrawAny (g : Nat) (w : World) (h : Src w g) : Calls Try.prog 27 #[.pointer (some ⟨g, 0, none⟩)] w (PtC w g) := by
  have ng := Src.lt h
  have nz0 : ¬ w.heap.size = g := by omega
  have nz1 : ¬ g = w.heap.size := by omega
  go_enter Try.func27, Try.ntmps27
  go_wp2_with fail; (with_reducible refine (spec_l01Next g _ _ (by repeat (first | with_reducible assumption | with_reducible refine Src.alloc ?_ _ | with_reducible refine Src.drewN ?_ _ | with_reducible refine Src.drew ?_ | with_reducible refine Src.set (by first | (dsimp only; omega) | (simp; omega)) ?_)) (by decide)).mono ?_); rintro e w1 ⟨⟨x1, rfl, hx1⟩, hg1, hs1⟩; have hc1 := gcell hg1; have hf1 := gfroz hg1; have lg1 := Src.lt hs1; have nga1 : ¬ w1.heap.size = g := (by omega); have ngb1 : ¬ g = w1.heap.size := (by omega); have hzs1 := hg1.size; (try simp at hzs1); have zx1_0 : w.heap.size < w1.heap.size := (by first | omega | (simp at hzs1; omega)); have zy1_0 : w.heap.size < w1.heap.size + 1 := (by omega); have zw1_0 : ¬ w1.heap.size = w.heap.size := (by omega); have zv1_0 : ¬ w.heap.size = w1.heap.size := (by omega); have zu1_0 : w.heap.size < w1.heap.size + 1 + 1 := (by omega); have zt1_0 : ¬ w1.heap.size + 1 = w.heap.size := (by omega); have zr1_0 : ¬ w.heap.size = w1.heap.size + 1 := (by omega)
  clear hx1
  by_cases k1 : x1 = 0
  · subst k1
    go_wp2_with fail; (with_reducible refine (spec_l01NextN g 3 3 _ (by repeat (first | with_reducible assumption | with_reducible refine Src.alloc ?_ _ | with_reducible refine Src.drewN ?_ _ | with_reducible refine Src.drew ?_ | with_reducible refine Src.set (by first | (dsimp only; omega) | (simp; omega)) ?_)) (by decide) (by decide) (by decide)).mono ?_); rintro e w2 ⟨⟨x2, rfl, hx2⟩, hg2, hs2⟩; have hc2 := gcell hg2; have hf2 := gfroz hg2; have lg2 := Src.lt hs2; have nga2 : ¬ w2.heap.size = g := (by omega); have ngb2 : ¬ g = w2.heap.size := (by omega); have hzs2 := hg2.size; (try simp at hzs2); have zx2_0 : w.heap.size < w2.heap.size := (by first | omega | (simp at hzs2; omega)); have zy2_0 : w.heap.size < w2.heap.size + 1 := (by omega); have zw2_0 : ¬ w2.heap.size = w.heap.size := (by omega); have zv2_0 : ¬ w.heap.size = w2.heap.size := (by omega); have zu2_0 : w.heap.size < w2.heap.size + 1 + 1 := (by omega); have zt2_0 : ¬ w2.heap.size + 1 = w.heap.size := (by omega); have zr2_0 : ¬ w.heap.size = w2.heap.size + 1 := (by omega); have zx2_1 : w1.heap.size < w2.heap.size := (by first | omega | (simp at hzs2; omega)); have zy2_1 : w1.heap.size < w2.heap.size + 1 := (by omega); have zw2_1 : ¬ w2.heap.size = w1.heap.size := (by omega); have zv2_1 : ¬ w1.heap.size = w2.heap.size := (by omega); have zu2_1 : w1.heap.size < w2.heap.size + 1 + 1 := (by omega); have zt2_1 : ¬ w2.heap.size + 1 = w1.heap.size := (by omega); have zr2_1 : ¬ w1.heap.size = w2.heap.size + 1 := (by omega)
    rcases (by omega : x2 = 0 ∨ x2 = 1 ∨ x2 = 2) with rfl | rfl | rfl
    all_goals
      go_wp2
      simp [bodyPost, results, Try.results27, go_sem, *]
      exact ⟨⟨_, _, rfl⟩, (by repeat (first | with_reducible exact World.grownBy.refl _ _ | with_reducible assumption | with_reducible refine gr_alloc ?_ _ | with_reducible refine gr_drew ?_ | with_reducible refine gr_drewN ?_ _ | with_reducible refine gr_new ?_ (by first | exact Nat.le_refl _ | (dsimp only; omega) | (simp; omega)) | with_reducible refine gr_step ?_ (by assumption))), (by repeat (first | with_reducible assumption | with_reducible refine Src.alloc ?_ _ | with_reducible refine Src.drewN ?_ _ | with_reducible refine Src.drew ?_ | with_reducible refine Src.set (by first | (dsimp only; omega) | (simp; omega)) ?_))⟩
  · have k2 : (x1 == 0) = false := beq_eq_false_iff_ne.2 k1
    go_wp2_with fail; (with_reducible refine (spec_l08Draw g _ (by repeat (first | with_reducible assumption | with_reducible refine Src.alloc ?_ _ | with_reducible refine Src.drewN ?_ _ | with_reducible refine Src.drew ?_ | with_reducible refine Src.set (by first | (dsimp only; omega) | (simp; omega)) ?_))).mono ?_); rintro e w2 ⟨⟨a2, b2, rfl⟩, hg2, hs2⟩; have hc2 := gcell hg2; have hf2 := gfroz hg2; have lg2 := Src.lt hs2; have nga2 : ¬ w2.heap.size = g := (by omega); have ngb2 : ¬ g = w2.heap.size := (by omega); have hzs2 := hg2.size; (try simp at hzs2); have zx2_0 : w.heap.size < w2.heap.size := (by first | omega | (simp at hzs2; omega)); have zy2_0 : w.heap.size < w2.heap.size + 1 := (by omega); have zw2_0 : ¬ w2.heap.size = w.heap.size := (by omega); have zv2_0 : ¬ w.heap.size = w2.heap.size := (by omega); have zu2_0 : w.heap.size < w2.heap.size + 1 + 1 := (by omega); have zt2_0 : ¬ w2.heap.size + 1 = w.heap.size := (by omega); have zr2_0 : ¬ w.heap.size = w2.heap.size + 1 := (by omega)
    go_wp2
    simp [bodyPost, results, Try.results27, go_sem, *]
    exact ⟨⟨_, _, rfl⟩, (by repeat (first | with_reducible exact World.grownBy.refl _ _ | with_reducible assumption | with_reducible refine gr_alloc ?_ _ | with_reducible refine gr_drew ?_ | with_reducible refine gr_drewN ?_ _ | with_reducible refine gr_new ?_ (by first | exact Nat.le_refl _ | (dsimp only; omega) | (simp; omega)) | with_reducible refine gr_step ?_ (by assumption))), (by repeat (first | with_reducible assumption | with_reducible refine Src.alloc ?_ _ | with_reducible refine Src.drewN ?_ _ | with_reducible refine Src.drew ?_ | with_reducible refine Src.set (by first | (dsimp only; omega) | (simp; omega)) ?_))⟩
set_option maxRecDepth 100000 in
set_option maxHeartbeats 4000000 in
theorem spec_l08DrawHeading (g : Nat) (w : World) (h : Src w g) : Calls Try.prog 106 #[.pointer (some ⟨g, 0, none⟩)] w (PtC w g) := by
  have ng := Src.lt h
  have nz0 : ¬ w.heap.size = g := by omega
  have nz1 : ¬ g = w.heap.size := by omega
  go_enter Try.func106, Try.ntmps106
  go_wp2_with fail; (with_reducible refine (spec_l01Next g _ _ (by repeat (first | with_reducible assumption | with_reducible refine Src.alloc ?_ _ | with_reducible refine Src.drewN ?_ _ | with_reducible refine Src.drew ?_ | with_reducible refine Src.set (by first | (dsimp only; omega) | (simp; omega)) ?_)) (by decide)).mono ?_); rintro e w1 ⟨⟨x1, rfl, hx1⟩, hg1, hs1⟩; have hc1 := gcell hg1; have hf1 := gfroz hg1; have lg1 := Src.lt hs1; have nga1 : ¬ w1.heap.size = g := (by omega); have ngb1 : ¬ g = w1.heap.size := (by omega); have hzs1 := hg1.size; (try simp at hzs1); have zx1_0 : w.heap.size < w1.heap.size := (by first | omega | (simp at hzs1; omega)); have zy1_0 : w.heap.size < w1.heap.size + 1 := (by omega); have zw1_0 : ¬ w1.heap.size = w.heap.size := (by omega); have zv1_0 : ¬ w.heap.size = w1.heap.size := (by omega); have zu1_0 : w.heap.size < w1.heap.size + 1 + 1 := (by omega); have zt1_0 : ¬ w1.heap.size + 1 = w.heap.size := (by omega); have zr1_0 : ¬ w.heap.size = w1.heap.size + 1 := (by omega)
  clear hx1
  by_cases k1 : x1 = 0
  · subst k1
    go_upto_region 2 with fail
    have HwE : World.grownBy w w1 (some g) := (by repeat (first | with_reducible exact World.grownBy.refl _ _ | with_reducible assumption | with_reducible refine gr_alloc ?_ _ | with_reducible refine gr_drew ?_ | with_reducible refine gr_drewN ?_ _ | with_reducible refine gr_new ?_ (by first | exact Nat.le_refl _ | (dsimp only; omega) | (simp; omega)) | with_reducible refine gr_step ?_ (by assumption)))
    refine wp_region_held_drew (S := fun W => World.grownBy w W (some g) ∧ Src W g) (by kernel_rfl) ⟨gr_drew HwE, by assumption⟩ (fun hHeld => ?_)
    refine wpAnyH_take (i := 1) (oi := ⟨some 7, _, _, _, _, _⟩) (v := ?_) rfl (by kernel_rfl) (by kernel_rfl) (by kernel_rfl) (fun _ _ _ h => h) (Or.inl ⟨by kernel_rfl, ?_⟩) (by assumption) ?_; rotate_left; focus (intro W0 hSw; (try dsimp only at hSw); go_simp; (try with_reducible rfl)); (try simp only [Act.put, List.setIfInBounds_toArray, List.set_cons_zero, List.set_cons_succ])
    refine wpAnyH_take (i := 6) (oi := ⟨some 12, _, _, _, _, _⟩) (v := ?_) rfl (by kernel_rfl) (by kernel_rfl) (by kernel_rfl) (fun _ _ _ h => h) (Or.inl ⟨by kernel_rfl, ?_⟩) (by assumption) ?_; rotate_left; focus (intro W0 hSw; (try dsimp only at hSw); go_simp; (try with_reducible rfl)); (try simp only [Act.put, List.setIfInBounds_toArray, List.set_cons_zero, List.set_cons_succ])
    refine wpAnyH_inv (fuel := 1) [0, 2, 3, 4, 5, 7, 8, 9, 10] [6, 8, 9, 10, 11, 13, 14, 15, 16] (fun u L W => (World.grownBy w1 W (some g) ∧ Src W g) ∧ (L 0 → FRow g 4 (u 6) W) ∧ (L 2 → FNat 4 (u 8)) ∧ (L 3 → FAddr g (u 9) W) ∧ (L 4 → FInt (u 10)) ∧ (L 5 → FRow g 2 (u 11) W) ∧ (L 7 → FNat 2 (u 13)) ∧ (L 8 → FAddr g (u 14) W) ∧ (L 9 → FInt (u 15)) ∧ (L 10 → FAgg2 (u 16)) ∧ True) (by decide) (by kernel_rfl) (fun u L W hJ => ⟨HwE.trans hJ.1.1, hJ.1.2⟩) (fun u L hL => ⟨⟨gr_drew (World.grownBy.refl _ _), by assumption⟩, fun k => absurd k (hL 0 (by decide)), fun k => absurd k (hL 2 (by decide)), fun k => absurd k (hL 3 (by decide)), fun k => absurd k (hL 4 (by decide)), fun k => absurd k (hL 5 (by decide)), fun k => absurd k (hL 7 (by decide)), fun k => absurd k (hL 8 (by decide)), fun k => absurd k (hL 9 (by decide)), fun k => absurd k (hL 10 (by decide)), trivial⟩) ?_ ?_
    · refine StepsH.cons (d := 6) (o := ⟨some 6, _, _, _, _, _⟩) rfl rfl (by kernel_rfl) ?_ ?_
      rotate_left
      refine StepsH.cons (d := 8) (o := ⟨some 8, _, _, _, _, _⟩) rfl rfl (by kernel_rfl) ?_ ?_
      rotate_left
      refine StepsH.cons (d := 9) (o := ⟨some 9, _, _, _, _, _⟩) rfl rfl (by kernel_rfl) ?_ ?_
      rotate_left
      refine StepsH.cons (d := 10) (o := ⟨some 10, _, _, _, _, _⟩) rfl rfl (by kernel_rfl) ?_ ?_
      rotate_left
      refine StepsH.cons (d := 11) (o := ⟨some 11, _, _, _, _, _⟩) rfl rfl (by kernel_rfl) ?_ ?_
      rotate_left
      refine StepsH.cons (d := 13) (o := ⟨some 13, _, _, _, _, _⟩) rfl rfl (by kernel_rfl) ?_ ?_
      rotate_left
      refine StepsH.cons (d := 14) (o := ⟨some 14, _, _, _, _, _⟩) rfl rfl (by kernel_rfl) ?_ ?_
      rotate_left
      refine StepsH.cons (d := 15) (o := ⟨some 15, _, _, _, _, _⟩) rfl rfl (by kernel_rfl) ?_ ?_
      rotate_left
      refine StepsH.cons (d := 16) (o := ⟨some 16, _, _, _, _, _⟩) rfl rfl (by kernel_rfl) ?_ ?_
      rotate_left
      exact StepsH.nil
      · intro u L W hn hd hJ
        obtain ⟨hk, f6, f8, f9, f10, f11, f13, f14, f15, f16, _⟩ := hJ
        have hnd := hk.2
        intro K hK
        simp only [puts, Act.put, List.setIfInBounds_toArray, List.set_cons_zero, List.set_cons_succ]
        go_simp
        all_goals (try go_wp2_with fail)
        all_goals
          apply Shut.go3 (W := W) (g := g) hK
          · simp only [puts, Act.put, List.setIfInBounds_toArray, List.set_cons_zero, List.set_cons_succ]; rfl
          · first | with_reducible assumption | with_reducible exact World.grownBy.refl _ _ | exact World.grownBy_alloc _ _ _
          · first | with_reducible assumption | exact Src.alloc hnd _
          · intro hg hs; exact ⟨Dr.step hk hg hs, fun _ => by rw [upd_same]; exact FRow.new (Src.lt hnd) _ _ (fun j hj => by rcases (show j = 0 ∨ j = 1 ∨ j = 2 ∨ j = 3 by omega) with rfl | rfl | rfl | rfl <;> exact ⟨_, rfl⟩), fun k => by rw [upd_ne u _ (by decide)]; exact (f8 (k.resolve_left (by decide))), fun k => by rw [upd_ne u _ (by decide)]; exact FAddr.later hg (f9 (k.resolve_left (by decide))), fun k => by rw [upd_ne u _ (by decide)]; exact (f10 (k.resolve_left (by decide))), fun k => by rw [upd_ne u _ (by decide)]; exact FRow.later hg (f11 (k.resolve_left (by decide))), fun k => by rw [upd_ne u _ (by decide)]; exact (f13 (k.resolve_left (by decide))), fun k => by rw [upd_ne u _ (by decide)]; exact FAddr.later hg (f14 (k.resolve_left (by decide))), fun k => by rw [upd_ne u _ (by decide)]; exact (f15 (k.resolve_left (by decide))), fun k => by rw [upd_ne u _ (by decide)]; exact (f16 (k.resolve_left (by decide))), trivial⟩
      · intro u L W hn hd hJ
        obtain ⟨hk, f6, f8, f9, f10, f11, f13, f14, f15, f16, _⟩ := hJ
        have hnd := hk.2
        intro K hK
        simp only [puts, Act.put, List.setIfInBounds_toArray, List.set_cons_zero, List.set_cons_succ]
        go_simp; (first | (go_at_call 45; (with_reducible refine (spec_l01NextN g 4 4 _ hnd (by decide) (by decide) (by decide)).mono ?_); rintro e w9 ⟨⟨xx, rfl, hxx⟩, hg, hs⟩) | (go_at_call 45; (with_reducible refine (spec_l01NextN g 2 2 _ hnd (by decide) (by decide) (by decide)).mono ?_); rintro e w9 ⟨⟨xx, rfl, hxx⟩, hg, hs⟩))
        all_goals (try go_wp2_with fail)
        all_goals
          apply Shut.go3 (W := W) (g := g) hK
          · simp only [puts, Act.put, List.setIfInBounds_toArray, List.set_cons_zero, List.set_cons_succ]; rfl
          · first | with_reducible assumption | with_reducible exact World.grownBy.refl _ _ | exact World.grownBy_alloc _ _ _
          · first | with_reducible assumption | exact Src.alloc hnd _
          · intro hg hs; exact ⟨Dr.step hk hg hs, fun k => by rw [upd_ne u _ (by decide)]; exact FRow.later hg (f6 (k.resolve_left (by decide))), fun _ => by rw [upd_same]; exact ⟨_, rfl, by first | assumption | omega⟩, fun k => by rw [upd_ne u _ (by decide)]; exact FAddr.later hg (f9 (k.resolve_left (by decide))), fun k => by rw [upd_ne u _ (by decide)]; exact (f10 (k.resolve_left (by decide))), fun k => by rw [upd_ne u _ (by decide)]; exact FRow.later hg (f11 (k.resolve_left (by decide))), fun k => by rw [upd_ne u _ (by decide)]; exact (f13 (k.resolve_left (by decide))), fun k => by rw [upd_ne u _ (by decide)]; exact FAddr.later hg (f14 (k.resolve_left (by decide))), fun k => by rw [upd_ne u _ (by decide)]; exact (f15 (k.resolve_left (by decide))), fun k => by rw [upd_ne u _ (by decide)]; exact (f16 (k.resolve_left (by decide))), trivial⟩
      · intro u L W hn hd hJ
        obtain ⟨hk, f6, f8, f9, f10, f11, f13, f14, f15, f16, _⟩ := hJ
        have hnd := hk.2
        obtain ⟨b6, e6, nb6, lb6, cb6⟩ := f6 (hd 0 (by kernel_rfl))
        obtain ⟨x8, e8, l8⟩ := f8 (hd 2 (by kernel_rfl))
        have il8 : (0 : Int) ≤ (x8 : Int) := (by omega); have iu8 : (x8 : Int) < (4 : Int) := (by omega)
        intro K hK
        simp only [puts, Act.put, List.setIfInBounds_toArray, List.set_cons_zero, List.set_cons_succ, e6, e8]
        go_simp
        all_goals (try go_wp2_with fail)
        all_goals
          apply Shut.go3 (W := W) (g := g) hK
          · simp only [puts, Act.put, List.setIfInBounds_toArray, List.set_cons_zero, List.set_cons_succ, e6, e8]; rfl
          · first | with_reducible assumption | with_reducible exact World.grownBy.refl _ _ | exact World.grownBy_alloc _ _ _
          · first | with_reducible assumption | exact Src.alloc hnd _
          · intro hg hs; exact ⟨Dr.step hk hg hs, fun k => by rw [upd_ne u _ (by decide)]; exact FRow.later hg (f6 (k.resolve_left (by decide))), fun k => by rw [upd_ne u _ (by decide)]; exact (f8 (k.resolve_left (by decide))), fun _ => by rw [upd_same]; exact FAddr.new nb6 lb6 (cb6 _ (by omega)), fun k => by rw [upd_ne u _ (by decide)]; exact (f10 (k.resolve_left (by decide))), fun k => by rw [upd_ne u _ (by decide)]; exact FRow.later hg (f11 (k.resolve_left (by decide))), fun k => by rw [upd_ne u _ (by decide)]; exact (f13 (k.resolve_left (by decide))), fun k => by rw [upd_ne u _ (by decide)]; exact FAddr.later hg (f14 (k.resolve_left (by decide))), fun k => by rw [upd_ne u _ (by decide)]; exact (f15 (k.resolve_left (by decide))), fun k => by rw [upd_ne u _ (by decide)]; exact (f16 (k.resolve_left (by decide))), trivial⟩
      · intro u L W hn hd hJ
        obtain ⟨hk, f6, f8, f9, f10, f11, f13, f14, f15, f16, _⟩ := hJ
        have hnd := hk.2
        obtain ⟨b9, o9, e9, nb9, lb9, z9, cz9⟩ := f9 (hd 3 (by kernel_rfl))
        intro K hK
        simp only [puts, Act.put, List.setIfInBounds_toArray, List.set_cons_zero, List.set_cons_succ, e9]
        go_simp
        all_goals (try go_wp2_with fail)
        all_goals
          apply Shut.go3 (W := W) (g := g) hK
          · simp only [puts, Act.put, List.setIfInBounds_toArray, List.set_cons_zero, List.set_cons_succ, e9]; rfl
          · first | with_reducible assumption | with_reducible exact World.grownBy.refl _ _ | exact World.grownBy_alloc _ _ _
          · first | with_reducible assumption | exact Src.alloc hnd _
          · intro hg hs; exact ⟨Dr.step hk hg hs, fun k => by rw [upd_ne u _ (by decide)]; exact FRow.later hg (f6 (k.resolve_left (by decide))), fun k => by rw [upd_ne u _ (by decide)]; exact (f8 (k.resolve_left (by decide))), fun k => by rw [upd_ne u _ (by decide)]; exact FAddr.later hg (f9 (k.resolve_left (by decide))), fun _ => by rw [upd_same]; exact ⟨_, rfl⟩, fun k => by rw [upd_ne u _ (by decide)]; exact FRow.later hg (f11 (k.resolve_left (by decide))), fun k => by rw [upd_ne u _ (by decide)]; exact (f13 (k.resolve_left (by decide))), fun k => by rw [upd_ne u _ (by decide)]; exact FAddr.later hg (f14 (k.resolve_left (by decide))), fun k => by rw [upd_ne u _ (by decide)]; exact (f15 (k.resolve_left (by decide))), fun k => by rw [upd_ne u _ (by decide)]; exact (f16 (k.resolve_left (by decide))), trivial⟩
      · intro u L W hn hd hJ
        obtain ⟨hk, f6, f8, f9, f10, f11, f13, f14, f15, f16, _⟩ := hJ
        have hnd := hk.2
        intro K hK
        simp only [puts, Act.put, List.setIfInBounds_toArray, List.set_cons_zero, List.set_cons_succ]
        go_simp
        all_goals (try go_wp2_with fail)
        all_goals
          apply Shut.go3 (W := W) (g := g) hK
          · simp only [puts, Act.put, List.setIfInBounds_toArray, List.set_cons_zero, List.set_cons_succ]; rfl
          · first | with_reducible assumption | with_reducible exact World.grownBy.refl _ _ | exact World.grownBy_alloc _ _ _
          · first | with_reducible assumption | exact Src.alloc hnd _
          · intro hg hs; exact ⟨Dr.step hk hg hs, fun k => by rw [upd_ne u _ (by decide)]; exact FRow.later hg (f6 (k.resolve_left (by decide))), fun k => by rw [upd_ne u _ (by decide)]; exact (f8 (k.resolve_left (by decide))), fun k => by rw [upd_ne u _ (by decide)]; exact FAddr.later hg (f9 (k.resolve_left (by decide))), fun k => by rw [upd_ne u _ (by decide)]; exact (f10 (k.resolve_left (by decide))), fun _ => by rw [upd_same]; exact FRow.new (Src.lt hnd) _ _ (fun j hj => by rcases (show j = 0 ∨ j = 1 by omega) with rfl | rfl <;> exact ⟨_, rfl⟩), fun k => by rw [upd_ne u _ (by decide)]; exact (f13 (k.resolve_left (by decide))), fun k => by rw [upd_ne u _ (by decide)]; exact FAddr.later hg (f14 (k.resolve_left (by decide))), fun k => by rw [upd_ne u _ (by decide)]; exact (f15 (k.resolve_left (by decide))), fun k => by rw [upd_ne u _ (by decide)]; exact (f16 (k.resolve_left (by decide))), trivial⟩
      · intro u L W hn hd hJ
        obtain ⟨hk, f6, f8, f9, f10, f11, f13, f14, f15, f16, _⟩ := hJ
        have hnd := hk.2
        intro K hK
        simp only [puts, Act.put, List.setIfInBounds_toArray, List.set_cons_zero, List.set_cons_succ]
        go_simp; (first | (go_at_call 45; (with_reducible refine (spec_l01NextN g 4 4 _ hnd (by decide) (by decide) (by decide)).mono ?_); rintro e w9 ⟨⟨xx, rfl, hxx⟩, hg, hs⟩) | (go_at_call 45; (with_reducible refine (spec_l01NextN g 2 2 _ hnd (by decide) (by decide) (by decide)).mono ?_); rintro e w9 ⟨⟨xx, rfl, hxx⟩, hg, hs⟩))
        all_goals (try go_wp2_with fail)
        all_goals
          apply Shut.go3 (W := W) (g := g) hK
          · simp only [puts, Act.put, List.setIfInBounds_toArray, List.set_cons_zero, List.set_cons_succ]; rfl
          · first | with_reducible assumption | with_reducible exact World.grownBy.refl _ _ | exact World.grownBy_alloc _ _ _
          · first | with_reducible assumption | exact Src.alloc hnd _
          · intro hg hs; exact ⟨Dr.step hk hg hs, fun k => by rw [upd_ne u _ (by decide)]; exact FRow.later hg (f6 (k.resolve_left (by decide))), fun k => by rw [upd_ne u _ (by decide)]; exact (f8 (k.resolve_left (by decide))), fun k => by rw [upd_ne u _ (by decide)]; exact FAddr.later hg (f9 (k.resolve_left (by decide))), fun k => by rw [upd_ne u _ (by decide)]; exact (f10 (k.resolve_left (by decide))), fun k => by rw [upd_ne u _ (by decide)]; exact FRow.later hg (f11 (k.resolve_left (by decide))), fun _ => by rw [upd_same]; exact ⟨_, rfl, by first | assumption | omega⟩, fun k => by rw [upd_ne u _ (by decide)]; exact FAddr.later hg (f14 (k.resolve_left (by decide))), fun k => by rw [upd_ne u _ (by decide)]; exact (f15 (k.resolve_left (by decide))), fun k => by rw [upd_ne u _ (by decide)]; exact (f16 (k.resolve_left (by decide))), trivial⟩
      · intro u L W hn hd hJ
        obtain ⟨hk, f6, f8, f9, f10, f11, f13, f14, f15, f16, _⟩ := hJ
        have hnd := hk.2
        obtain ⟨b11, e11, nb11, lb11, cb11⟩ := f11 (hd 5 (by kernel_rfl))
        obtain ⟨x13, e13, l13⟩ := f13 (hd 7 (by kernel_rfl))
        have il13 : (0 : Int) ≤ (x13 : Int) := (by omega); have iu13 : (x13 : Int) < (2 : Int) := (by omega)
        intro K hK
        simp only [puts, Act.put, List.setIfInBounds_toArray, List.set_cons_zero, List.set_cons_succ, e11, e13]
        go_simp
        all_goals (try go_wp2_with fail)
        all_goals
          apply Shut.go3 (W := W) (g := g) hK
          · simp only [puts, Act.put, List.setIfInBounds_toArray, List.set_cons_zero, List.set_cons_succ, e11, e13]; rfl
          · first | with_reducible assumption | with_reducible exact World.grownBy.refl _ _ | exact World.grownBy_alloc _ _ _
          · first | with_reducible assumption | exact Src.alloc hnd _
          · intro hg hs; exact ⟨Dr.step hk hg hs, fun k => by rw [upd_ne u _ (by decide)]; exact FRow.later hg (f6 (k.resolve_left (by decide))), fun k => by rw [upd_ne u _ (by decide)]; exact (f8 (k.resolve_left (by decide))), fun k => by rw [upd_ne u _ (by decide)]; exact FAddr.later hg (f9 (k.resolve_left (by decide))), fun k => by rw [upd_ne u _ (by decide)]; exact (f10 (k.resolve_left (by decide))), fun k => by rw [upd_ne u _ (by decide)]; exact FRow.later hg (f11 (k.resolve_left (by decide))), fun k => by rw [upd_ne u _ (by decide)]; exact (f13 (k.resolve_left (by decide))), fun _ => by rw [upd_same]; exact FAddr.new nb11 lb11 (cb11 _ (by omega)), fun k => by rw [upd_ne u _ (by decide)]; exact (f15 (k.resolve_left (by decide))), fun k => by rw [upd_ne u _ (by decide)]; exact (f16 (k.resolve_left (by decide))), trivial⟩
      · intro u L W hn hd hJ
        obtain ⟨hk, f6, f8, f9, f10, f11, f13, f14, f15, f16, _⟩ := hJ
        have hnd := hk.2
        obtain ⟨b14, o14, e14, nb14, lb14, z14, cz14⟩ := f14 (hd 8 (by kernel_rfl))
        intro K hK
        simp only [puts, Act.put, List.setIfInBounds_toArray, List.set_cons_zero, List.set_cons_succ, e14]
        go_simp
        all_goals (try go_wp2_with fail)
        all_goals
          apply Shut.go3 (W := W) (g := g) hK
          · simp only [puts, Act.put, List.setIfInBounds_toArray, List.set_cons_zero, List.set_cons_succ, e14]; rfl
          · first | with_reducible assumption | with_reducible exact World.grownBy.refl _ _ | exact World.grownBy_alloc _ _ _
          · first | with_reducible assumption | exact Src.alloc hnd _
          · intro hg hs; exact ⟨Dr.step hk hg hs, fun k => by rw [upd_ne u _ (by decide)]; exact FRow.later hg (f6 (k.resolve_left (by decide))), fun k => by rw [upd_ne u _ (by decide)]; exact (f8 (k.resolve_left (by decide))), fun k => by rw [upd_ne u _ (by decide)]; exact FAddr.later hg (f9 (k.resolve_left (by decide))), fun k => by rw [upd_ne u _ (by decide)]; exact (f10 (k.resolve_left (by decide))), fun k => by rw [upd_ne u _ (by decide)]; exact FRow.later hg (f11 (k.resolve_left (by decide))), fun k => by rw [upd_ne u _ (by decide)]; exact (f13 (k.resolve_left (by decide))), fun k => by rw [upd_ne u _ (by decide)]; exact FAddr.later hg (f14 (k.resolve_left (by decide))), fun _ => by rw [upd_same]; exact ⟨_, rfl⟩, fun k => by rw [upd_ne u _ (by decide)]; exact (f16 (k.resolve_left (by decide))), trivial⟩
      · intro u L W hn hd hJ
        obtain ⟨hk, f6, f8, f9, f10, f11, f13, f14, f15, f16, _⟩ := hJ
        have hnd := hk.2
        obtain ⟨x10, e10⟩ := f10 (hd 4 (by kernel_rfl))
        obtain ⟨x15, e15⟩ := f15 (hd 9 (by kernel_rfl))
        intro K hK
        simp only [puts, Act.put, List.setIfInBounds_toArray, List.set_cons_zero, List.set_cons_succ, e10, e15]
        go_simp
        all_goals (try go_wp2_with fail)
        all_goals
          apply Shut.go3 (W := W) (g := g) hK
          · simp only [puts, Act.put, List.setIfInBounds_toArray, List.set_cons_zero, List.set_cons_succ, e10, e15]; rfl
          · first | with_reducible assumption | with_reducible exact World.grownBy.refl _ _ | exact World.grownBy_alloc _ _ _
          · first | with_reducible assumption | exact Src.alloc hnd _
          · intro hg hs; exact ⟨Dr.step hk hg hs, fun k => by rw [upd_ne u _ (by decide)]; exact FRow.later hg (f6 (k.resolve_left (by decide))), fun k => by rw [upd_ne u _ (by decide)]; exact (f8 (k.resolve_left (by decide))), fun k => by rw [upd_ne u _ (by decide)]; exact FAddr.later hg (f9 (k.resolve_left (by decide))), fun k => by rw [upd_ne u _ (by decide)]; exact (f10 (k.resolve_left (by decide))), fun k => by rw [upd_ne u _ (by decide)]; exact FRow.later hg (f11 (k.resolve_left (by decide))), fun k => by rw [upd_ne u _ (by decide)]; exact (f13 (k.resolve_left (by decide))), fun k => by rw [upd_ne u _ (by decide)]; exact FAddr.later hg (f14 (k.resolve_left (by decide))), fun k => by rw [upd_ne u _ (by decide)]; exact (f15 (k.resolve_left (by decide))), fun _ => by rw [upd_same]; exact ⟨_, _, rfl⟩, trivial⟩
    · intro u L W hJ hL
      obtain ⟨hk, f6, f8, f9, f10, f11, f13, f14, f15, f16, _⟩ := hJ
      obtain ⟨b6, e6, nb6, lb6, cb6⟩ := f6 (hL 0 (by kernel_rfl))
      obtain ⟨x8, e8, l8⟩ := f8 (hL 2 (by kernel_rfl))
      obtain ⟨b9, o9, e9, nb9, lb9, z9, cz9⟩ := f9 (hL 3 (by kernel_rfl))
      obtain ⟨x10, e10⟩ := f10 (hL 4 (by kernel_rfl))
      obtain ⟨b11, e11, nb11, lb11, cb11⟩ := f11 (hL 5 (by kernel_rfl))
      obtain ⟨x13, e13, l13⟩ := f13 (hL 7 (by kernel_rfl))
      obtain ⟨b14, o14, e14, nb14, lb14, z14, cz14⟩ := f14 (hL 8 (by kernel_rfl))
      obtain ⟨x15, e15⟩ := f15 (hL 9 (by kernel_rfl))
      obtain ⟨x16_0, x16_1, e16⟩ := f16 (hL 10 (by kernel_rfl))
      clear hHeld; have hcW := gcell hk.1; have hfW := gfroz hk.1; have hHeld := And.intro (HwE.trans hk.1) hk.2; have lW := hk.1.size
      clear f6
      clear f8
      clear f9
      clear f10
      clear f11
      clear f13
      clear f14
      clear f15
      clear f16
      simp only [puts, Act.put, List.setIfInBounds_toArray, List.set_cons_zero, List.set_cons_succ, setAll, Array.replicate, e6, e8, e9, e10, e11, e13, e14, e15, e16]
      refine wpAnyH_ready (rs := [11]) (by kernel_rfl) (by simp) ?_; refine (AllReadyH.cons (o := ⟨none, _, _, _, _, _⟩) rfl (fun K hK => ?_) AllReadyH.nil)
      go_simp
      all_goals (try go_wp2_with fail)
      refine hK.out _ _ ?_ (fun hH2 => ?_)
      · have hHg := hHeld.1; have hHs := hHeld.2; exact ⟨(by repeat (first | with_reducible exact World.grownBy.refl _ _ | with_reducible assumption | with_reducible refine gr_alloc ?_ _ | with_reducible refine gr_drew ?_ | with_reducible refine gr_drewN ?_ _ | with_reducible refine gr_new ?_ (by first | exact Nat.le_refl _ | (dsimp only; omega) | (simp; omega)) | with_reducible refine gr_step ?_ (by assumption))), (by repeat (first | with_reducible assumption | with_reducible refine Src.alloc ?_ _ | with_reducible refine Src.drewN ?_ _ | with_reducible refine Src.drew ?_ | with_reducible refine Src.set (by first | (dsimp only; omega) | (simp; omega)) ?_))⟩
      clear hK K hHeld; (have hHeld := hH2); clear hH2; (try simp only [Act.put])
      refine wpAnyH_done (by kernel_rfl) ?_ _; (try simp only [Act.put, List.setIfInBounds_toArray, List.set_cons_zero, List.set_cons_succ])
      obtain ⟨hgE, hsE⟩ := hHeld
      go_wp2
      simp [bodyPost, results, Try.results106, go_sem, *]
      exact ⟨⟨_, _, rfl⟩, (by repeat (first | with_reducible exact World.grownBy.refl _ _ | with_reducible assumption | with_reducible refine gr_alloc ?_ _ | with_reducible refine gr_drew ?_ | with_reducible refine gr_drewN ?_ _ | with_reducible refine gr_new ?_ (by first | exact Nat.le_refl _ | (dsimp only; omega) | (simp; omega)) | with_reducible refine gr_step ?_ (by assumption))), (by repeat (first | with_reducible assumption | with_reducible refine Src.alloc ?_ _ | with_reducible refine Src.drewN ?_ _ | with_reducible refine Src.drew ?_ | with_reducible refine Src.set (by first | (dsimp only; omega) | (simp; omega)) ?_))⟩
  · have k2 : (x1 == 0) = false := beq_eq_false_iff_ne.2 k1
    go_wp2_with fail; (with_reducible refine (spec_l01Next g _ _ (by repeat (first | with_reducible assumption | with_reducible refine Src.alloc ?_ _ | with_reducible refine Src.drewN ?_ _ | with_reducible refine Src.drew ?_ | with_reducible refine Src.set (by first | (dsimp only; omega) | (simp; omega)) ?_)) (by decide)).mono ?_); rintro e w2 ⟨⟨x2, rfl, hx2⟩, hg2, hs2⟩; have hc2 := gcell hg2; have hf2 := gfroz hg2; have lg2 := Src.lt hs2; have nga2 : ¬ w2.heap.size = g := (by omega); have ngb2 : ¬ g = w2.heap.size := (by omega); have hzs2 := hg2.size; (try simp at hzs2); have zx2_0 : w.heap.size < w2.heap.size := (by first | omega | (simp at hzs2; omega)); have zy2_0 : w.heap.size < w2.heap.size + 1 := (by omega); have zw2_0 : ¬ w2.heap.size = w.heap.size := (by omega); have zv2_0 : ¬ w.heap.size = w2.heap.size := (by omega); have zu2_0 : w.heap.size < w2.heap.size + 1 + 1 := (by omega); have zt2_0 : ¬ w2.heap.size + 1 = w.heap.size := (by omega); have zr2_0 : ¬ w.heap.size = w2.heap.size + 1 := (by omega)
    go_wp2_with fail; (with_reducible refine (spec_l01Next g _ _ (by repeat (first | with_reducible assumption | with_reducible refine Src.alloc ?_ _ | with_reducible refine Src.drewN ?_ _ | with_reducible refine Src.drew ?_ | with_reducible refine Src.set (by first | (dsimp only; omega) | (simp; omega)) ?_)) (by decide)).mono ?_); rintro e w3 ⟨⟨x3, rfl, hx3⟩, hg3, hs3⟩; have hc3 := gcell hg3; have hf3 := gfroz hg3; have lg3 := Src.lt hs3; have nga3 : ¬ w3.heap.size = g := (by omega); have ngb3 : ¬ g = w3.heap.size := (by omega); have hzs3 := hg3.size; (try simp at hzs3); have zx3_0 : w.heap.size < w3.heap.size := (by first | omega | (simp at hzs3; omega)); have zy3_0 : w.heap.size < w3.heap.size + 1 := (by omega); have zw3_0 : ¬ w3.heap.size = w.heap.size := (by omega); have zv3_0 : ¬ w.heap.size = w3.heap.size := (by omega); have zu3_0 : w.heap.size < w3.heap.size + 1 + 1 := (by omega); have zt3_0 : ¬ w3.heap.size + 1 = w.heap.size := (by omega); have zr3_0 : ¬ w.heap.size = w3.heap.size + 1 := (by omega)
    obtain ⟨p1, p2⟩ := hx2 (by decide)
    obtain ⟨p3, p4⟩ := hx3 (by decide)
    clear hx2 hx3
    go_wp2
    simp [bodyPost, results, Try.results106, go_sem, *]
    exact ⟨⟨_, _, rfl⟩, (by repeat (first | with_reducible exact World.grownBy.refl _ _ | with_reducible assumption | with_reducible refine gr_alloc ?_ _ | with_reducible refine gr_drew ?_ | with_reducible refine gr_drewN ?_ _ | with_reducible refine gr_new ?_ (by first | exact Nat.le_refl _ | (dsimp only; omega) | (simp; omega)) | with_reducible refine gr_step ?_ (by assumption))), (by repeat (first | with_reducible assumption | with_reducible refine Src.alloc ?_ _ | with_reducible refine Src.drewN ?_ _ | with_reducible refine Src.drew ?_ | with_reducible refine Src.set (by first | (dsimp only; omega) | (simp; omega)) ?_))⟩
end Go.Proofs.Ytnmnibpcklcmgaa
