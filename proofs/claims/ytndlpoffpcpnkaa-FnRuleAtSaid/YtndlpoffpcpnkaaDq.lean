/- Walks: points, winds and headings are drawn, second part. -/
import Derived.Test.YtndlpoffpcpnkaaDp
namespace Go.Proofs.Ytndlpoffpcpnkaa
open Go.RowKit

set_option maxRecDepth 100000 in
set_option maxHeartbeats 4000000 in
theorem spec_l08Draw (g : Nat) (w : World) (h : Src w g) : Calls Try.prog 27 #[.pointer (some ⟨g, 0, none⟩)] w (PtC w g) := by
  have ng := Src.lt h
  have nz0 : ¬ w.heap.size = g := by omega
  have nz1 : ¬ g = w.heap.size := by omega
  go_enter Try.func27, Try.ntmps27
  go_wp2_with fail; (with_reducible refine (spec_l01Next g _ _ swz (by decide)).mono ?_); rintro e w1 ⟨⟨x1, rfl, hx1⟩, hg1, hs1⟩; have hc1 := gcell hg1; have hf1 := gfroz hg1; have lg1 := Src.lt hs1; have nga1 : ¬ w1.heap.size = g := (by omega); have ngb1 : ¬ g = w1.heap.size := (by omega); have hzs1 := hg1.size; (try simp at hzs1); have zx1_0 : w.heap.size < w1.heap.size := (by first | omega | (simp at hzs1; omega)); have zy1_0 : w.heap.size < w1.heap.size + 1 := (by omega); have zw1_0 : ¬ w1.heap.size = w.heap.size := (by omega); have zv1_0 : ¬ w.heap.size = w1.heap.size := (by omega); have zu1_0 : w.heap.size < w1.heap.size + 1 + 1 := (by omega); have zt1_0 : ¬ w1.heap.size + 1 = w.heap.size := (by omega); have zr1_0 : ¬ w.heap.size = w1.heap.size + 1 := (by omega)
  go_wp2_with fail; (with_reducible refine (spec_l01Next g _ _ swz (by decide)).mono ?_); rintro e w2 ⟨⟨x2, rfl, hx2⟩, hg2, hs2⟩; have hc2 := gcell hg2; have hf2 := gfroz hg2; have lg2 := Src.lt hs2; have nga2 : ¬ w2.heap.size = g := (by omega); have ngb2 : ¬ g = w2.heap.size := (by omega); have hzs2 := hg2.size; (try simp at hzs2); have zx2_0 : w.heap.size < w2.heap.size := (by first | omega | (simp at hzs2; omega)); have zy2_0 : w.heap.size < w2.heap.size + 1 := (by omega); have zw2_0 : ¬ w2.heap.size = w.heap.size := (by omega); have zv2_0 : ¬ w.heap.size = w2.heap.size := (by omega); have zu2_0 : w.heap.size < w2.heap.size + 1 + 1 := (by omega); have zt2_0 : ¬ w2.heap.size + 1 = w.heap.size := (by omega); have zr2_0 : ¬ w.heap.size = w2.heap.size + 1 := (by omega)
  go_wp2_with fail; (with_reducible refine (spec_l01Next g _ _ swz (by decide)).mono ?_); rintro e w3 ⟨⟨x3, rfl, hx3⟩, hg3, hs3⟩; have hc3 := gcell hg3; have hf3 := gfroz hg3; have lg3 := Src.lt hs3; have nga3 : ¬ w3.heap.size = g := (by omega); have ngb3 : ¬ g = w3.heap.size := (by omega); have hzs3 := hg3.size; (try simp at hzs3); have zx3_0 : w.heap.size < w3.heap.size := (by first | omega | (simp at hzs3; omega)); have zy3_0 : w.heap.size < w3.heap.size + 1 := (by omega); have zw3_0 : ¬ w3.heap.size = w.heap.size := (by omega); have zv3_0 : ¬ w.heap.size = w3.heap.size := (by omega); have zu3_0 : w.heap.size < w3.heap.size + 1 + 1 := (by omega); have zt3_0 : ¬ w3.heap.size + 1 = w.heap.size := (by omega); have zr3_0 : ¬ w.heap.size = w3.heap.size + 1 := (by omega); have zx3_1 : w2.heap.size < w3.heap.size := (by first | omega | (simp at hzs3; omega)); have zy3_1 : w2.heap.size < w3.heap.size + 1 := (by omega); have zw3_1 : ¬ w3.heap.size = w2.heap.size := (by omega); have zv3_1 : ¬ w2.heap.size = w3.heap.size := (by omega); have zu3_1 : w2.heap.size < w3.heap.size + 1 + 1 := (by omega); have zt3_1 : ¬ w3.heap.size + 1 = w2.heap.size := (by omega); have zr3_1 : ¬ w2.heap.size = w3.heap.size + 1 := (by omega)
  obtain ⟨p1, p2⟩ := hx1 (by decide)
  obtain ⟨p3, p4⟩ := hx2 (by decide)
  clear hx1 hx2 hx3
  by_cases k1 : x3 = 0
  · subst k1
    go_wp2_with fail; (with_reducible refine (spec_l01Next g _ _ swz (by decide)).mono ?_); rintro e w4 ⟨⟨x4, rfl, hx4⟩, hg4, hs4⟩; have hc4 := gcell hg4; have hf4 := gfroz hg4; have lg4 := Src.lt hs4; have nga4 : ¬ w4.heap.size = g := (by omega); have ngb4 : ¬ g = w4.heap.size := (by omega); have hzs4 := hg4.size; (try simp at hzs4); have zx4_0 : w.heap.size < w4.heap.size := (by first | omega | (simp at hzs4; omega)); have zy4_0 : w.heap.size < w4.heap.size + 1 := (by omega); have zw4_0 : ¬ w4.heap.size = w.heap.size := (by omega); have zv4_0 : ¬ w.heap.size = w4.heap.size := (by omega); have zu4_0 : w.heap.size < w4.heap.size + 1 + 1 := (by omega); have zt4_0 : ¬ w4.heap.size + 1 = w.heap.size := (by omega); have zr4_0 : ¬ w.heap.size = w4.heap.size + 1 := (by omega); have zx4_1 : w2.heap.size < w4.heap.size := (by first | omega | (simp at hzs4; omega)); have zy4_1 : w2.heap.size < w4.heap.size + 1 := (by omega); have zw4_1 : ¬ w4.heap.size = w2.heap.size := (by omega); have zv4_1 : ¬ w2.heap.size = w4.heap.size := (by omega); have zu4_1 : w2.heap.size < w4.heap.size + 1 + 1 := (by omega); have zt4_1 : ¬ w4.heap.size + 1 = w2.heap.size := (by omega); have zr4_1 : ¬ w2.heap.size = w4.heap.size + 1 := (by omega)
    go_wp2_with fail; (with_reducible refine (spec_l01Next g _ _ swz (by decide)).mono ?_); rintro e w5 ⟨⟨x5, rfl, hx5⟩, hg5, hs5⟩; have hc5 := gcell hg5; have hf5 := gfroz hg5; have lg5 := Src.lt hs5; have nga5 : ¬ w5.heap.size = g := (by omega); have ngb5 : ¬ g = w5.heap.size := (by omega); have hzs5 := hg5.size; (try simp at hzs5); have zx5_0 : w.heap.size < w5.heap.size := (by first | omega | (simp at hzs5; omega)); have zy5_0 : w.heap.size < w5.heap.size + 1 := (by omega); have zw5_0 : ¬ w5.heap.size = w.heap.size := (by omega); have zv5_0 : ¬ w.heap.size = w5.heap.size := (by omega); have zu5_0 : w.heap.size < w5.heap.size + 1 + 1 := (by omega); have zt5_0 : ¬ w5.heap.size + 1 = w.heap.size := (by omega); have zr5_0 : ¬ w.heap.size = w5.heap.size + 1 := (by omega); have zx5_1 : w2.heap.size < w5.heap.size := (by first | omega | (simp at hzs5; omega)); have zy5_1 : w2.heap.size < w5.heap.size + 1 := (by omega); have zw5_1 : ¬ w5.heap.size = w2.heap.size := (by omega); have zv5_1 : ¬ w2.heap.size = w5.heap.size := (by omega); have zu5_1 : w2.heap.size < w5.heap.size + 1 + 1 := (by omega); have zt5_1 : ¬ w5.heap.size + 1 = w2.heap.size := (by omega); have zr5_1 : ¬ w2.heap.size = w5.heap.size + 1 := (by omega)
    obtain ⟨p5, p6⟩ := hx4 (by decide)
    obtain ⟨p7, p8⟩ := hx5 (by decide)
    clear hx4 hx5
    go_upto_region 4 with fail
    obtain ⟨wG, hG⟩ : ∃ W, W = (w5.setCell ⟨w2.heap.size, 0, none⟩ (.int .i64 (x4 - 1000))).setCell ⟨w2.heap.size, 1, none⟩ (.int .i64 (x5 - 1000)) := ⟨_, rfl⟩
    have gG : w.grownBy wG (some g) := by rw [hG]; exact gwz
    have sG : Src wG g := by rw [hG]; exact swz
    have c0 : wG.cell? ⟨w2.heap.size, 0, none⟩ = some (.int .i64 (x4 - 1000)) := by rw [hG]; go_simp
    have c1 : wG.cell? ⟨w2.heap.size, 1, none⟩ = some (.int .i64 (x5 - 1000)) := by rw [hG]; go_simp
    have f1 : wG.frozen? ⟨w2.heap.size, 1, none⟩ = false := by rw [hG]; go_simp
    have r0 : wG.cell? ⟨w.heap.size, 0, none⟩ = some (.int .i64 0) := by rw [hG]; go_simp
    have r1 : wG.cell? ⟨w.heap.size, 1, none⟩ = some (.int .i64 0) := by rw [hG]; go_simp
    have s0 : wG.frozen? ⟨w.heap.size, 0, none⟩ = false := by rw [hG]; go_simp
    have s1 : wG.frozen? ⟨w.heap.size, 1, none⟩ = false := by rw [hG]; go_simp
    rw [← hG]
    clear hG
    rcases (by omega : ¬ x4 - 1000 = 0 ∨ (x4 = 1000 ∧ ¬ x5 - 1000 = 0) ∨ (x4 = 1000 ∧ x5 = 1000)) with e | ⟨rfl, e⟩ | ⟨rfl, rfl⟩
    all_goals
      go_wp2
      simp [bodyPost, results, Try.results27, go_sem, *]
      exact ⟨⟨_, _, rfl⟩, gwz, swz⟩
  · have k2 : (x3 == 0) = false := beq_eq_false_iff_ne.2 k1
    rcases (by omega : ¬ x1 - 3 = 0 ∨ (x1 = 3 ∧ ¬ x2 - 3 = 0) ∨ (x1 = 3 ∧ x2 = 3)) with e | ⟨rfl, e⟩ | ⟨rfl, rfl⟩
    all_goals
      go_wp2
      simp [bodyPost, results, Try.results27, go_sem, *]
      exact ⟨⟨_, _, rfl⟩, gwz, swz⟩
set_option maxRecDepth 100000 in
set_option maxHeartbeats 4000000 in
theorem spec_l08DrawAny (g : Nat) (w : World) (h : Src w g) : Calls Try.prog 15 #[.pointer (some ⟨g, 0, none⟩)] w (PtC w g) := by
  have ng := Src.lt h
  have nz0 : ¬ w.heap.size = g := by omega
  have nz1 : ¬ g = w.heap.size := by omega
  go_enter Try.func15, Try.ntmps15
  go_wp2_with fail; (with_reducible refine (spec_l01Next g _ _ swz (by decide)).mono ?_); rintro e w1 ⟨⟨x1, rfl, hx1⟩, hg1, hs1⟩; have hc1 := gcell hg1; have hf1 := gfroz hg1; have lg1 := Src.lt hs1; have nga1 : ¬ w1.heap.size = g := (by omega); have ngb1 : ¬ g = w1.heap.size := (by omega); have hzs1 := hg1.size; (try simp at hzs1); have zx1_0 : w.heap.size < w1.heap.size := (by first | omega | (simp at hzs1; omega)); have zy1_0 : w.heap.size < w1.heap.size + 1 := (by omega); have zw1_0 : ¬ w1.heap.size = w.heap.size := (by omega); have zv1_0 : ¬ w.heap.size = w1.heap.size := (by omega); have zu1_0 : w.heap.size < w1.heap.size + 1 + 1 := (by omega); have zt1_0 : ¬ w1.heap.size + 1 = w.heap.size := (by omega); have zr1_0 : ¬ w.heap.size = w1.heap.size + 1 := (by omega)
  clear hx1
  by_cases k1 : x1 = 0
  · subst k1
    go_wp2_with fail; (with_reducible refine (spec_l01NextN g 3 3 _ swz (by decide) (by decide) (by decide)).mono ?_); rintro e w2 ⟨⟨x2, rfl, hx2⟩, hg2, hs2⟩; have hc2 := gcell hg2; have hf2 := gfroz hg2; have lg2 := Src.lt hs2; have nga2 : ¬ w2.heap.size = g := (by omega); have ngb2 : ¬ g = w2.heap.size := (by omega); have hzs2 := hg2.size; (try simp at hzs2); have zx2_0 : w.heap.size < w2.heap.size := (by first | omega | (simp at hzs2; omega)); have zy2_0 : w.heap.size < w2.heap.size + 1 := (by omega); have zw2_0 : ¬ w2.heap.size = w.heap.size := (by omega); have zv2_0 : ¬ w.heap.size = w2.heap.size := (by omega); have zu2_0 : w.heap.size < w2.heap.size + 1 + 1 := (by omega); have zt2_0 : ¬ w2.heap.size + 1 = w.heap.size := (by omega); have zr2_0 : ¬ w.heap.size = w2.heap.size + 1 := (by omega); have zx2_1 : w1.heap.size < w2.heap.size := (by first | omega | (simp at hzs2; omega)); have zy2_1 : w1.heap.size < w2.heap.size + 1 := (by omega); have zw2_1 : ¬ w2.heap.size = w1.heap.size := (by omega); have zv2_1 : ¬ w1.heap.size = w2.heap.size := (by omega); have zu2_1 : w1.heap.size < w2.heap.size + 1 + 1 := (by omega); have zt2_1 : ¬ w2.heap.size + 1 = w1.heap.size := (by omega); have zr2_1 : ¬ w1.heap.size = w2.heap.size + 1 := (by omega)
    rcases (by omega : x2 = 0 ∨ x2 = 1 ∨ x2 = 2) with rfl | rfl | rfl
    all_goals
      go_wp2
      simp [bodyPost, results, Try.results15, go_sem, *]
      exact ⟨⟨_, _, rfl⟩, gwz, swz⟩
  · have k2 : (x1 == 0) = false := beq_eq_false_iff_ne.2 k1
    go_wp2_with fail; (with_reducible refine (spec_l08Draw g _ swz).mono ?_); rintro e w2 ⟨⟨a2, b2, rfl⟩, hg2, hs2⟩; have hc2 := gcell hg2; have hf2 := gfroz hg2; have lg2 := Src.lt hs2; have nga2 : ¬ w2.heap.size = g := (by omega); have ngb2 : ¬ g = w2.heap.size := (by omega); have hzs2 := hg2.size; (try simp at hzs2); have zx2_0 : w.heap.size < w2.heap.size := (by first | omega | (simp at hzs2; omega)); have zy2_0 : w.heap.size < w2.heap.size + 1 := (by omega); have zw2_0 : ¬ w2.heap.size = w.heap.size := (by omega); have zv2_0 : ¬ w.heap.size = w2.heap.size := (by omega); have zu2_0 : w.heap.size < w2.heap.size + 1 + 1 := (by omega); have zt2_0 : ¬ w2.heap.size + 1 = w.heap.size := (by omega); have zr2_0 : ¬ w.heap.size = w2.heap.size + 1 := (by omega)
    go_wp2
    simp [bodyPost, results, Try.results15, go_sem, *]
    exact ⟨⟨_, _, rfl⟩, gwz, swz⟩
end Go.Proofs.Ytndlpoffpcpnkaa
