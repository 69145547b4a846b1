/- Walks: two hulls are drawn. -/
import Derived.Test.YtnmnibpcklcmgaaDh
namespace Go.Proofs.Ytnmnibpcklcmgaa
open Go.RowKit

/-- What a draw of two hulls returns. -/
def TwoD (w : World) (g : Nat) (e : Ending) (w' : World) : Prop :=
  (∃ a b c d l a' b' c' d' l' : Int, e = .returned (.tuple #[.agg #[.int .i64 a, .int .i64 b, .int .i64 c, .int .i64 d, .int .i64 l], .agg #[.int .i64 a', .int .i64 b', .int .i64 c', .int .i64 d', .int .i64 l']])) ∧ w.grownBy w' (some g) ∧ Src w' g
set_option maxRecDepth 100000 in
set_option maxHeartbeats 8000000 in
theorem spec_l09DrawTwo (g : Nat) (w : World) (h : Src w g) : Calls Try.prog 79 #[.pointer (some ⟨g, 0, none⟩)] w (TwoD w g) := by
  have ng := Src.lt h
  have nz0 : ¬ w.heap.size = g := by omega
  have nz1 : ¬ g = w.heap.size := by omega
  have nz2 : ¬ w.heap.size + 1 = g := by omega
  have nz3 : ¬ g = w.heap.size + 1 := by omega
  go_enter Try.func79, Try.ntmps79
  go_wp2_with fail; (with_reducible refine (spec_l09Draw g _ (by repeat (first | with_reducible assumption | with_reducible refine Src.alloc ?_ _ | with_reducible refine Src.drewN ?_ _ | with_reducible refine Src.drew ?_ | with_reducible refine Src.set (by first | (dsimp only; omega) | (simp; omega)) ?_))).mono ?_); rintro e w1 ⟨⟨a1, b1, c1, d1, l1, rfl⟩, hg1, hs1⟩; have hc1 := gcell hg1; have hf1 := gfroz hg1; have lg1 := Src.lt hs1; have nga1 : ¬ w1.heap.size = g := (by omega); have ngb1 : ¬ g = w1.heap.size := (by omega); have hzs1 := hg1.size; (try simp at hzs1); have zx1_0 : w.heap.size < w1.heap.size := (by first | omega | (simp at hzs1; omega)); have zy1_0 : w.heap.size < w1.heap.size + 1 := (by omega); have zw1_0 : ¬ w1.heap.size = w.heap.size := (by omega); have zv1_0 : ¬ w.heap.size = w1.heap.size := (by omega); have zu1_0 : w.heap.size < w1.heap.size + 1 + 1 := (by omega); have zt1_0 : ¬ w1.heap.size + 1 = w.heap.size := (by omega); have zr1_0 : ¬ w.heap.size = w1.heap.size + 1 := (by omega); have zx1_1 : w.heap.size + 1 < w1.heap.size := (by first | omega | (simp at hzs1; omega)); have zy1_1 : w.heap.size + 1 < w1.heap.size + 1 := (by omega); have zw1_1 : ¬ w1.heap.size = w.heap.size + 1 := (by omega); have zv1_1 : ¬ w.heap.size + 1 = w1.heap.size := (by omega); have zu1_1 : w.heap.size + 1 < w1.heap.size + 1 + 1 := (by omega); have zt1_1 : ¬ w1.heap.size + 1 = w.heap.size + 1 := (by omega); have zr1_1 : ¬ w.heap.size + 1 = w1.heap.size + 1 := (by omega)
  have rc0 : ∀ o, o < 5 → w1.cell? ⟨w.heap.size, o, none⟩ = some (.int .i64 0) ∧ w1.frozen? ⟨w.heap.size, o, none⟩ = false := fun o ho => by
    rcases (by omega : o = 0 ∨ o = 1 ∨ o = 2 ∨ o = 3 ∨ o = 4) with rfl | rfl | rfl | rfl | rfl <;> exact ⟨by rw [hc1 _ _ (by simp; omega) nz0]; go_simp, by rw [hf1 _ _ (by simp; omega) nz0]; go_simp⟩
  have rc1 : ∀ o, o < 5 → w1.cell? ⟨w.heap.size + 1, o, none⟩ = some (.int .i64 0) ∧ w1.frozen? ⟨w.heap.size + 1, o, none⟩ = false := fun o ho => by
    rcases (by omega : o = 0 ∨ o = 1 ∨ o = 2 ∨ o = 3 ∨ o = 4) with rfl | rfl | rfl | rfl | rfl <;> exact ⟨by rw [hc1 _ _ (by simp) nz2]; go_simp, by rw [hf1 _ _ (by simp) nz2]; go_simp⟩
  have ra0 := (rc0 0 (by decide)).1
  have rb0 := (rc0 0 (by decide)).2
  have rd0 := (rc1 0 (by decide)).1
  have re0 := (rc1 0 (by decide)).2
  have ra1 := (rc0 1 (by decide)).1
  have rb1 := (rc0 1 (by decide)).2
  have rd1 := (rc1 1 (by decide)).1
  have re1 := (rc1 1 (by decide)).2
  have ra2 := (rc0 2 (by decide)).1
  have rb2 := (rc0 2 (by decide)).2
  have rd2 := (rc1 2 (by decide)).1
  have re2 := (rc1 2 (by decide)).2
  have ra3 := (rc0 3 (by decide)).1
  have rb3 := (rc0 3 (by decide)).2
  have rd3 := (rc1 3 (by decide)).1
  have re3 := (rc1 3 (by decide)).2
  have ra4 := (rc0 4 (by decide)).1
  have rb4 := (rc0 4 (by decide)).2
  have rd4 := (rc1 4 (by decide)).1
  have re4 := (rc1 4 (by decide)).2
  have Hg1 := hide hg1
  have G1 := hide (show w.grownBy w1 (some g) from (by repeat (first | with_reducible exact World.grownBy.refl _ _ | with_reducible assumption | with_reducible refine gr_alloc ?_ _ | with_reducible refine gr_drew ?_ | with_reducible refine gr_drewN ?_ _ | with_reducible refine gr_new ?_ (by first | exact Nat.le_refl _ | (dsimp only; omega) | (simp; omega)) | with_reducible refine gr_step ?_ (by assumption))))
  clear rc0 rc1 hc1 hf1 hg1
  have hg1 := G1.out
  go_wp2_with fail; (with_reducible refine (spec_l09Draw g _ (by repeat (first | with_reducible assumption | with_reducible refine Src.alloc ?_ _ | with_reducible refine Src.drewN ?_ _ | with_reducible refine Src.drew ?_ | with_reducible refine Src.set (by first | (dsimp only; omega) | (simp; omega)) ?_))).mono ?_); rintro e w2 ⟨⟨aa, bb, cc, dd, ll, rfl⟩, hg2, hs2⟩; have hc2 := gcell hg2; have hf2 := gfroz hg2; have lg2 := Src.lt hs2; have nga2 : ¬ w2.heap.size = g := (by omega); have ngb2 : ¬ g = w2.heap.size := (by omega); have hzs2 := hg2.size; (try simp at hzs2); have zx2_0 : w.heap.size < w2.heap.size := (by first | omega | (simp at hzs2; omega)); have zy2_0 : w.heap.size < w2.heap.size + 1 := (by omega); have zw2_0 : ¬ w2.heap.size = w.heap.size := (by omega); have zv2_0 : ¬ w.heap.size = w2.heap.size := (by omega); have zu2_0 : w.heap.size < w2.heap.size + 1 + 1 := (by omega); have zt2_0 : ¬ w2.heap.size + 1 = w.heap.size := (by omega); have zr2_0 : ¬ w.heap.size = w2.heap.size + 1 := (by omega); have zx2_1 : w.heap.size + 1 < w2.heap.size := (by first | omega | (simp at hzs2; omega)); have zy2_1 : w.heap.size + 1 < w2.heap.size + 1 := (by omega); have zw2_1 : ¬ w2.heap.size = w.heap.size + 1 := (by omega); have zv2_1 : ¬ w.heap.size + 1 = w2.heap.size := (by omega); have zu2_1 : w.heap.size + 1 < w2.heap.size + 1 + 1 := (by omega); have zt2_1 : ¬ w2.heap.size + 1 = w.heap.size + 1 := (by omega); have zr2_1 : ¬ w.heap.size + 1 = w2.heap.size + 1 := (by omega)
  have ngc : ¬ w2.heap.size + 1 = g := by omega
  have ngd : ¬ g = w2.heap.size + 1 := by omega
  go_wp2_with fail; (with_reducible refine (spec_l01Next g _ _ (by repeat (first | with_reducible assumption | with_reducible refine Src.alloc ?_ _ | with_reducible refine Src.drewN ?_ _ | with_reducible refine Src.drew ?_ | with_reducible refine Src.set (by first | (dsimp only; omega) | (simp; omega)) ?_)) (by decide)).mono ?_); rintro e w3 ⟨⟨x3, rfl, hx3⟩, hg3, hs3⟩; have hc3 := gcell hg3; have hf3 := gfroz hg3; have lg3 := Src.lt hs3; have nga3 : ¬ w3.heap.size = g := (by omega); have ngb3 : ¬ g = w3.heap.size := (by omega); have hzs3 := hg3.size; (try simp at hzs3); have zx3_0 : w.heap.size < w3.heap.size := (by first | omega | (simp at hzs3; omega)); have zy3_0 : w.heap.size < w3.heap.size + 1 := (by omega); have zw3_0 : ¬ w3.heap.size = w.heap.size := (by omega); have zv3_0 : ¬ w.heap.size = w3.heap.size := (by omega); have zu3_0 : w.heap.size < w3.heap.size + 1 + 1 := (by omega); have zt3_0 : ¬ w3.heap.size + 1 = w.heap.size := (by omega); have zr3_0 : ¬ w.heap.size = w3.heap.size + 1 := (by omega); have zx3_1 : w.heap.size + 1 < w3.heap.size := (by first | omega | (simp at hzs3; omega)); have zy3_1 : w.heap.size + 1 < w3.heap.size + 1 := (by omega); have zw3_1 : ¬ w3.heap.size = w.heap.size + 1 := (by omega); have zv3_1 : ¬ w.heap.size + 1 = w3.heap.size := (by omega); have zu3_1 : w.heap.size + 1 < w3.heap.size + 1 + 1 := (by omega); have zt3_1 : ¬ w3.heap.size + 1 = w.heap.size + 1 := (by omega); have zr3_1 : ¬ w.heap.size + 1 = w3.heap.size + 1 := (by omega); have zx3_2 : w2.heap.size < w3.heap.size := (by first | omega | (simp at hzs3; omega)); have zy3_2 : w2.heap.size < w3.heap.size + 1 := (by omega); have zw3_2 : ¬ w3.heap.size = w2.heap.size := (by omega); have zv3_2 : ¬ w2.heap.size = w3.heap.size := (by omega); have zu3_2 : w2.heap.size < w3.heap.size + 1 + 1 := (by omega); have zt3_2 : ¬ w3.heap.size + 1 = w2.heap.size := (by omega); have zr3_2 : ¬ w2.heap.size = w3.heap.size + 1 := (by omega); have zx3_3 : w2.heap.size + 1 < w3.heap.size := (by first | omega | (simp at hzs3; omega)); have zy3_3 : w2.heap.size + 1 < w3.heap.size + 1 := (by omega); have zw3_3 : ¬ w3.heap.size = w2.heap.size + 1 := (by omega); have zv3_3 : ¬ w2.heap.size + 1 = w3.heap.size := (by omega); have zu3_3 : w2.heap.size + 1 < w3.heap.size + 1 + 1 := (by omega); have zt3_3 : ¬ w3.heap.size + 1 = w2.heap.size + 1 := (by omega); have zr3_3 : ¬ w2.heap.size + 1 = w3.heap.size + 1 := (by omega)
  clear hx3
  by_cases k1 : 0 < x3
  · go_wp2_with fail; (with_reducible refine (spec_IsPoint a1 b1 _).mono ?_); rintro e w4 ⟨rfl, hb4⟩
    have hg4 := grown_below (r := some g) hb4
    have hs4 := Src.keep hb4 hs3
    have hc4 := gcell hg4
    have hf4 := gfroz hg4
    have hz4 := hb4.size
    have lg4 := Src.lt hs4
    have u0 : w.heap.size < w4.heap.size := by omega
    have u1 : w.heap.size + 1 < w4.heap.size := by omega
    have u2 : w2.heap.size < w4.heap.size := by omega
    have u3 : w2.heap.size + 1 < w4.heap.size := by omega
    rcases b2 (isPt a1 b1) with gp | gp
    · go_wp2_with fail; (with_reducible refine (spec_l01Next g _ _ (by repeat (first | with_reducible assumption | with_reducible refine Src.alloc ?_ _ | with_reducible refine Src.drewN ?_ _ | with_reducible refine Src.drew ?_ | with_reducible refine Src.set (by first | (dsimp only; omega) | (simp; omega)) ?_)) (by decide)).mono ?_); rintro e w7 ⟨⟨x7, rfl, hx7⟩, hg7, hs7⟩; have hc7 := gcell hg7; have hf7 := gfroz hg7; have lg7 := Src.lt hs7; have nga7 : ¬ w7.heap.size = g := (by omega); have ngb7 : ¬ g = w7.heap.size := (by omega); have hzs7 := hg7.size; (try simp at hzs7); have zx7_0 : w.heap.size < w7.heap.size := (by first | omega | (simp at hzs7; omega)); have zy7_0 : w.heap.size < w7.heap.size + 1 := (by omega); have zw7_0 : ¬ w7.heap.size = w.heap.size := (by omega); have zv7_0 : ¬ w.heap.size = w7.heap.size := (by omega); have zu7_0 : w.heap.size < w7.heap.size + 1 + 1 := (by omega); have zt7_0 : ¬ w7.heap.size + 1 = w.heap.size := (by omega); have zr7_0 : ¬ w.heap.size = w7.heap.size + 1 := (by omega); have zx7_1 : w.heap.size + 1 < w7.heap.size := (by first | omega | (simp at hzs7; omega)); have zy7_1 : w.heap.size + 1 < w7.heap.size + 1 := (by omega); have zw7_1 : ¬ w7.heap.size = w.heap.size + 1 := (by omega); have zv7_1 : ¬ w.heap.size + 1 = w7.heap.size := (by omega); have zu7_1 : w.heap.size + 1 < w7.heap.size + 1 + 1 := (by omega); have zt7_1 : ¬ w7.heap.size + 1 = w.heap.size + 1 := (by omega); have zr7_1 : ¬ w.heap.size + 1 = w7.heap.size + 1 := (by omega); have zx7_2 : w2.heap.size < w7.heap.size := (by first | omega | (simp at hzs7; omega)); have zy7_2 : w2.heap.size < w7.heap.size + 1 := (by omega); have zw7_2 : ¬ w7.heap.size = w2.heap.size := (by omega); have zv7_2 : ¬ w2.heap.size = w7.heap.size := (by omega); have zu7_2 : w2.heap.size < w7.heap.size + 1 + 1 := (by omega); have zt7_2 : ¬ w7.heap.size + 1 = w2.heap.size := (by omega); have zr7_2 : ¬ w2.heap.size = w7.heap.size + 1 := (by omega); have zx7_3 : w2.heap.size + 1 < w7.heap.size := (by first | omega | (simp at hzs7; omega)); have zy7_3 : w2.heap.size + 1 < w7.heap.size + 1 := (by omega); have zw7_3 : ¬ w7.heap.size = w2.heap.size + 1 := (by omega); have zv7_3 : ¬ w2.heap.size + 1 = w7.heap.size := (by omega); have zu7_3 : w2.heap.size + 1 < w7.heap.size + 1 + 1 := (by omega); have zt7_3 : ¬ w7.heap.size + 1 = w2.heap.size + 1 := (by omega); have zr7_3 : ¬ w2.heap.size + 1 = w7.heap.size + 1 := (by omega)
      clear hx7
      by_cases k7 : x7 = 0
      · subst k7
        go_upto_region 6 with fail
        go_region
        go_wp2
        simp [bodyPost, results, Try.results79, go_sem, *]
        first | exact ⟨⟨_, _, _, _, _, _, _, _, _, _, rfl⟩, (by repeat (first | with_reducible exact World.grownBy.refl _ _ | with_reducible assumption | with_reducible refine gr_alloc ?_ _ | with_reducible refine gr_drew ?_ | with_reducible refine gr_drewN ?_ _ | with_reducible refine gr_new ?_ (by first | exact Nat.le_refl _ | (dsimp only; omega) | (simp; omega)) | with_reducible refine gr_step ?_ (by assumption))), (by repeat (first | with_reducible assumption | with_reducible refine Src.alloc ?_ _ | with_reducible refine Src.drewN ?_ _ | with_reducible refine Src.drew ?_ | with_reducible refine Src.set (by first | (dsimp only; omega) | (simp; omega)) ?_))⟩ | exact ⟨(by repeat (first | with_reducible exact World.grownBy.refl _ _ | with_reducible assumption | with_reducible refine gr_alloc ?_ _ | with_reducible refine gr_drew ?_ | with_reducible refine gr_drewN ?_ _ | with_reducible refine gr_new ?_ (by first | exact Nat.le_refl _ | (dsimp only; omega) | (simp; omega)) | with_reducible refine gr_step ?_ (by assumption))), (by repeat (first | with_reducible assumption | with_reducible refine Src.alloc ?_ _ | with_reducible refine Src.drewN ?_ _ | with_reducible refine Src.drew ?_ | with_reducible refine Src.set (by first | (dsimp only; omega) | (simp; omega)) ?_))⟩
      · have k8 : (x7 == 0) = false := beq_eq_false_iff_ne.2 k7
        go_upto_region 6 with fail
        go_region
        go_wp2
        simp [bodyPost, results, Try.results79, go_sem, *]
        first | exact ⟨⟨_, _, _, _, _, _, _, _, _, _, rfl⟩, (by repeat (first | with_reducible exact World.grownBy.refl _ _ | with_reducible assumption | with_reducible refine gr_alloc ?_ _ | with_reducible refine gr_drew ?_ | with_reducible refine gr_drewN ?_ _ | with_reducible refine gr_new ?_ (by first | exact Nat.le_refl _ | (dsimp only; omega) | (simp; omega)) | with_reducible refine gr_step ?_ (by assumption))), (by repeat (first | with_reducible assumption | with_reducible refine Src.alloc ?_ _ | with_reducible refine Src.drewN ?_ _ | with_reducible refine Src.drew ?_ | with_reducible refine Src.set (by first | (dsimp only; omega) | (simp; omega)) ?_))⟩ | exact ⟨(by repeat (first | with_reducible exact World.grownBy.refl _ _ | with_reducible assumption | with_reducible refine gr_alloc ?_ _ | with_reducible refine gr_drew ?_ | with_reducible refine gr_drewN ?_ _ | with_reducible refine gr_new ?_ (by first | exact Nat.le_refl _ | (dsimp only; omega) | (simp; omega)) | with_reducible refine gr_step ?_ (by assumption))), (by repeat (first | with_reducible assumption | with_reducible refine Src.alloc ?_ _ | with_reducible refine Src.drewN ?_ _ | with_reducible refine Src.drew ?_ | with_reducible refine Src.set (by first | (dsimp only; omega) | (simp; omega)) ?_))⟩
    · go_upto_region 3 with fail
      have HwE : World.grownBy w w4 (some g) := (by repeat (first | with_reducible exact World.grownBy.refl _ _ | with_reducible assumption | with_reducible refine gr_alloc ?_ _ | with_reducible refine gr_drew ?_ | with_reducible refine gr_drewN ?_ _ | with_reducible refine gr_new ?_ (by first | exact Nat.le_refl _ | (dsimp only; omega) | (simp; omega)) | with_reducible refine gr_step ?_ (by assumption)))
      have HcE0 : World.cell? w4 ⟨w2.heap.size, 0, none⟩ = some (.int .i64 a1) := (by go_simp)
      have HcE1 : World.cell? w4 ⟨w2.heap.size, 1, none⟩ = some (.int .i64 b1) := (by go_simp)
      refine wp_region_held_drew (S := fun W => W.cell? ⟨w2.heap.size, 0, none⟩ = some (.int .i64 a1) ∧ W.cell? ⟨w2.heap.size, 1, none⟩ = some (.int .i64 b1) ∧ World.grownBy w W (some g) ∧ Src W g) (by kernel_rfl) ⟨HcE0, HcE1, gr_drew HwE, by assumption⟩ (fun hHeld => ?_)
      refine wpAnyH_take (i := 0) (oi := ⟨some 18, _, _, _, _, _⟩) (v := ?_) rfl (by kernel_rfl) (by kernel_rfl) (by kernel_rfl) (fun _ _ _ h => h) (Or.inl ⟨by kernel_rfl, ?_⟩) (by assumption) ?_; rotate_left; focus (intro W0 hSw; (try dsimp only at hSw); go_simp; (try with_reducible rfl)); (try simp only [Act.put, List.setIfInBounds_toArray, List.set_cons_zero, List.set_cons_succ])
      refine wpAnyH_take (i := 1) (oi := ⟨some 19, _, _, _, _, _⟩) (v := ?_) rfl (by kernel_rfl) (by kernel_rfl) (by kernel_rfl) (fun _ _ _ h => h) (Or.inl ⟨by kernel_rfl, ?_⟩) (by assumption) ?_; rotate_left; focus (intro W0 hSw; (try dsimp only at hSw); go_simp; (try with_reducible rfl)); (try simp only [Act.put, List.setIfInBounds_toArray, List.set_cons_zero, List.set_cons_succ])
      refine wpAnyH_take (i := 2) (oi := ⟨some 20, _, _, _, _, _⟩) (v := ?_) rfl (by kernel_rfl) (by kernel_rfl) (by kernel_rfl) (fun _ _ _ h => h) (Or.inl ⟨by kernel_rfl, ?_⟩) (by assumption) ?_; rotate_left; focus (intro W0 hSw; (try dsimp only at hSw); go_simp; (try with_reducible rfl)); (try simp only [Act.put, List.setIfInBounds_toArray, List.set_cons_zero, List.set_cons_succ])
      refine wpAnyH_take (i := 3) (oi := ⟨some 21, _, _, _, _, _⟩) (v := ?_) rfl (by kernel_rfl) (by kernel_rfl) (by kernel_rfl) (fun _ _ _ h => h) (Or.inl ⟨by kernel_rfl, ?_⟩) (by assumption) ?_; rotate_left; focus (intro W0 hSw; (try dsimp only at hSw); go_simp; (try with_reducible rfl)); (try simp only [Act.put, List.setIfInBounds_toArray, List.set_cons_zero, List.set_cons_succ])
      refine wpAnyH_take (i := 9) (oi := ⟨some 27, _, _, _, _, _⟩) (v := ?_) rfl (by kernel_rfl) (by kernel_rfl) (by kernel_rfl) (fun _ _ _ h => h) (Or.inl ⟨by kernel_rfl, ?_⟩) (by assumption) ?_; rotate_left; focus (intro W0 hSw; (try dsimp only at hSw); go_simp; (try with_reducible rfl)); (try simp only [Act.put, List.setIfInBounds_toArray, List.set_cons_zero, List.set_cons_succ])
      refine wpAnyH_take (i := 10) (oi := ⟨some 28, _, _, _, _, _⟩) (v := ?_) rfl (by kernel_rfl) (by kernel_rfl) (by kernel_rfl) (fun _ _ _ h => h) (Or.inl ⟨by kernel_rfl, ?_⟩) (by assumption) ?_; rotate_left; focus (intro W0 hSw; (try dsimp only at hSw); go_simp; (try with_reducible rfl)); (try simp only [Act.put, List.setIfInBounds_toArray, List.set_cons_zero, List.set_cons_succ])
      refine wpAnyH_take (i := 11) (oi := ⟨some 29, _, _, _, _, _⟩) (v := ?_) rfl (by kernel_rfl) (by kernel_rfl) (by kernel_rfl) (fun _ _ _ h => h) (Or.inl ⟨by kernel_rfl, ?_⟩) (by assumption) ?_; rotate_left; focus (intro W0 hSw; (try dsimp only at hSw); go_simp; (try with_reducible rfl)); (try simp only [Act.put, List.setIfInBounds_toArray, List.set_cons_zero, List.set_cons_succ])
      refine wpAnyH_take (i := 12) (oi := ⟨some 30, _, _, _, _, _⟩) (v := ?_) rfl (by kernel_rfl) (by kernel_rfl) (by kernel_rfl) (fun _ _ _ h => h) (Or.inl ⟨by kernel_rfl, ?_⟩) (by assumption) ?_; rotate_left; focus (intro W0 hSw; (try dsimp only at hSw); go_simp; (try with_reducible rfl)); (try simp only [Act.put, List.setIfInBounds_toArray, List.set_cons_zero, List.set_cons_succ])
      refine wpAnyH_inv (fuel := 1) [4, 5, 6, 7, 8, 13, 14, 15, 16, 17, 18, 19] [22, 23, 24, 25, 26, 31, 32, 33, 34, 35, 36, 37] (fun u L W => (World.grownBy w4 W (some g) ∧ Src W g) ∧ (L 4 → FInt (u 22)) ∧ (L 5 → FInt (u 23)) ∧ (L 6 → FInt (u 24)) ∧ (L 7 → FInt (u 25)) ∧ (L 8 → FInt (u 26)) ∧ (L 13 → FInt (u 31)) ∧ (L 14 → FInt (u 32)) ∧ (L 15 → FInt (u 33)) ∧ (L 16 → FInt (u 34)) ∧ (L 17 → FInt (u 35)) ∧ (L 18 → FAgg2 (u 36)) ∧ (L 19 → (u 37) = (Value.pointer (some ⟨w2.heap.size + 1, 0, none⟩))) ∧ True) (by decide) (by kernel_rfl) (fun u L W hJ => ⟨cell_grown hJ.1.1 (by omega) HcE0, cell_grown hJ.1.1 (by omega) HcE1, HwE.trans hJ.1.1, hJ.1.2⟩) (fun u L hL => ⟨⟨gr_drew (World.grownBy.refl _ _), by assumption⟩, fun k => absurd k (hL 4 (by decide)), fun k => absurd k (hL 5 (by decide)), fun k => absurd k (hL 6 (by decide)), fun k => absurd k (hL 7 (by decide)), fun k => absurd k (hL 8 (by decide)), fun k => absurd k (hL 13 (by decide)), fun k => absurd k (hL 14 (by decide)), fun k => absurd k (hL 15 (by decide)), fun k => absurd k (hL 16 (by decide)), fun k => absurd k (hL 17 (by decide)), fun k => absurd k (hL 18 (by decide)), fun k => absurd k (hL 19 (by decide)), trivial⟩) ?_ ?_
      · refine StepsH.cons (d := 22) (o := ⟨some 22, _, _, _, _, _⟩) rfl rfl (by kernel_rfl) ?_ ?_
        rotate_left
        refine StepsH.cons (d := 23) (o := ⟨some 23, _, _, _, _, _⟩) rfl rfl (by kernel_rfl) ?_ ?_
        rotate_left
        refine StepsH.cons (d := 24) (o := ⟨some 24, _, _, _, _, _⟩) rfl rfl (by kernel_rfl) ?_ ?_
        rotate_left
        refine StepsH.cons (d := 25) (o := ⟨some 25, _, _, _, _, _⟩) rfl rfl (by kernel_rfl) ?_ ?_
        rotate_left
        refine StepsH.cons (d := 26) (o := ⟨some 26, _, _, _, _, _⟩) rfl rfl (by kernel_rfl) ?_ ?_
        rotate_left
        refine StepsH.cons (d := 31) (o := ⟨some 31, _, _, _, _, _⟩) rfl rfl (by kernel_rfl) ?_ ?_
        rotate_left
        refine StepsH.cons (d := 32) (o := ⟨some 32, _, _, _, _, _⟩) rfl rfl (by kernel_rfl) ?_ ?_
        rotate_left
        refine StepsH.cons (d := 33) (o := ⟨some 33, _, _, _, _, _⟩) rfl rfl (by kernel_rfl) ?_ ?_
        rotate_left
        refine StepsH.cons (d := 34) (o := ⟨some 34, _, _, _, _, _⟩) rfl rfl (by kernel_rfl) ?_ ?_
        rotate_left
        refine StepsH.cons (d := 35) (o := ⟨some 35, _, _, _, _, _⟩) rfl rfl (by kernel_rfl) ?_ ?_
        rotate_left
        refine StepsH.cons (d := 36) (o := ⟨some 36, _, _, _, _, _⟩) rfl rfl (by kernel_rfl) ?_ ?_
        rotate_left
        refine StepsH.cons (d := 37) (o := ⟨some 37, _, _, _, _, _⟩) rfl rfl (by kernel_rfl) ?_ ?_
        rotate_left
        exact StepsH.nil
        · intro u L W hn hd hJ
          obtain ⟨hk, f22, f23, f24, f25, f26, f31, f32, f33, f34, f35, f36, f37, _⟩ := hJ
          have hnd := hk.2
          intro K hK
          simp only [puts, Act.put, List.setIfInBounds_toArray, List.set_cons_zero, List.set_cons_succ]
          go_simp; (go_at_call 45; (with_reducible refine (spec_l01Next g 81 _ hnd (by decide)).mono ?_); rintro e w9 ⟨⟨xx, rfl, hxx⟩, hg, hs⟩)
          all_goals (try go_wp2_with fail)
          all_goals
            apply Shut.go3 (W := W) (g := g) hK
            · simp only [puts, Act.put, List.setIfInBounds_toArray, List.set_cons_zero, List.set_cons_succ]; rfl
            · first | with_reducible assumption | with_reducible exact World.grownBy.refl _ _ | exact World.grownBy_alloc _ _ _
            · first | with_reducible assumption | exact Src.alloc hnd _
            · intro hg hs; exact ⟨Dr.step hk hg hs, fun _ => by rw [upd_same]; exact ⟨_, rfl⟩, fun k => by rw [upd_ne u _ (by decide)]; exact (f23 (k.resolve_left (by decide))), fun k => by rw [upd_ne u _ (by decide)]; exact (f24 (k.resolve_left (by decide))), fun k => by rw [upd_ne u _ (by decide)]; exact (f25 (k.resolve_left (by decide))), fun k => by rw [upd_ne u _ (by decide)]; exact (f26 (k.resolve_left (by decide))), fun k => by rw [upd_ne u _ (by decide)]; exact (f31 (k.resolve_left (by decide))), fun k => by rw [upd_ne u _ (by decide)]; exact (f32 (k.resolve_left (by decide))), fun k => by rw [upd_ne u _ (by decide)]; exact (f33 (k.resolve_left (by decide))), fun k => by rw [upd_ne u _ (by decide)]; exact (f34 (k.resolve_left (by decide))), fun k => by rw [upd_ne u _ (by decide)]; exact (f35 (k.resolve_left (by decide))), fun k => by rw [upd_ne u _ (by decide)]; exact (f36 (k.resolve_left (by decide))), fun k => by rw [upd_ne u _ (by decide)]; exact (f37 (k.resolve_left (by decide))), trivial⟩
        · intro u L W hn hd hJ
          obtain ⟨hk, f22, f23, f24, f25, f26, f31, f32, f33, f34, f35, f36, f37, _⟩ := hJ
          have hnd := hk.2
          obtain ⟨x22, e22⟩ := f22 (hd 4 (by kernel_rfl))
          intro K hK
          simp only [puts, Act.put, List.setIfInBounds_toArray, List.set_cons_zero, List.set_cons_succ, e22]
          go_simp
          all_goals (try go_wp2_with fail)
          all_goals
            apply Shut.go3 (W := W) (g := g) hK
            · simp only [puts, Act.put, List.setIfInBounds_toArray, List.set_cons_zero, List.set_cons_succ, e22]; rfl
            · first | with_reducible assumption | with_reducible exact World.grownBy.refl _ _ | exact World.grownBy_alloc _ _ _
            · first | with_reducible assumption | exact Src.alloc hnd _
            · intro hg hs; exact ⟨Dr.step hk hg hs, fun k => by rw [upd_ne u _ (by decide)]; exact (f22 (k.resolve_left (by decide))), fun _ => by rw [upd_same]; exact ⟨_, rfl⟩, fun k => by rw [upd_ne u _ (by decide)]; exact (f24 (k.resolve_left (by decide))), fun k => by rw [upd_ne u _ (by decide)]; exact (f25 (k.resolve_left (by decide))), fun k => by rw [upd_ne u _ (by decide)]; exact (f26 (k.resolve_left (by decide))), fun k => by rw [upd_ne u _ (by decide)]; exact (f31 (k.resolve_left (by decide))), fun k => by rw [upd_ne u _ (by decide)]; exact (f32 (k.resolve_left (by decide))), fun k => by rw [upd_ne u _ (by decide)]; exact (f33 (k.resolve_left (by decide))), fun k => by rw [upd_ne u _ (by decide)]; exact (f34 (k.resolve_left (by decide))), fun k => by rw [upd_ne u _ (by decide)]; exact (f35 (k.resolve_left (by decide))), fun k => by rw [upd_ne u _ (by decide)]; exact (f36 (k.resolve_left (by decide))), fun k => by rw [upd_ne u _ (by decide)]; exact (f37 (k.resolve_left (by decide))), trivial⟩
        · intro u L W hn hd hJ
          obtain ⟨hk, f22, f23, f24, f25, f26, f31, f32, f33, f34, f35, f36, f37, _⟩ := hJ
          have hnd := hk.2
          obtain ⟨x23, e23⟩ := f23 (hd 5 (by kernel_rfl))
          intro K hK
          simp only [puts, Act.put, List.setIfInBounds_toArray, List.set_cons_zero, List.set_cons_succ, e23]
          go_simp
          all_goals (try go_wp2_with fail)
          all_goals
            apply Shut.go3 (W := W) (g := g) hK
            · simp only [puts, Act.put, List.setIfInBounds_toArray, List.set_cons_zero, List.set_cons_succ, e23]; rfl
            · first | with_reducible assumption | with_reducible exact World.grownBy.refl _ _ | exact World.grownBy_alloc _ _ _
            · first | with_reducible assumption | exact Src.alloc hnd _
            · intro hg hs; exact ⟨Dr.step hk hg hs, fun k => by rw [upd_ne u _ (by decide)]; exact (f22 (k.resolve_left (by decide))), fun k => by rw [upd_ne u _ (by decide)]; exact (f23 (k.resolve_left (by decide))), fun _ => by rw [upd_same]; exact ⟨_, rfl⟩, fun k => by rw [upd_ne u _ (by decide)]; exact (f25 (k.resolve_left (by decide))), fun k => by rw [upd_ne u _ (by decide)]; exact (f26 (k.resolve_left (by decide))), fun k => by rw [upd_ne u _ (by decide)]; exact (f31 (k.resolve_left (by decide))), fun k => by rw [upd_ne u _ (by decide)]; exact (f32 (k.resolve_left (by decide))), fun k => by rw [upd_ne u _ (by decide)]; exact (f33 (k.resolve_left (by decide))), fun k => by rw [upd_ne u _ (by decide)]; exact (f34 (k.resolve_left (by decide))), fun k => by rw [upd_ne u _ (by decide)]; exact (f35 (k.resolve_left (by decide))), fun k => by rw [upd_ne u _ (by decide)]; exact (f36 (k.resolve_left (by decide))), fun k => by rw [upd_ne u _ (by decide)]; exact (f37 (k.resolve_left (by decide))), trivial⟩
        · intro u L W hn hd hJ
          obtain ⟨hk, f22, f23, f24, f25, f26, f31, f32, f33, f34, f35, f36, f37, _⟩ := hJ
          have hnd := hk.2
          obtain ⟨x24, e24⟩ := f24 (hd 6 (by kernel_rfl))
          intro K hK
          simp only [puts, Act.put, List.setIfInBounds_toArray, List.set_cons_zero, List.set_cons_succ, e24]
          go_simp
          all_goals (try go_wp2_with fail)
          all_goals
            apply Shut.go3 (W := W) (g := g) hK
            · simp only [puts, Act.put, List.setIfInBounds_toArray, List.set_cons_zero, List.set_cons_succ, e24]; rfl
            · first | with_reducible assumption | with_reducible exact World.grownBy.refl _ _ | exact World.grownBy_alloc _ _ _
            · first | with_reducible assumption | exact Src.alloc hnd _
            · intro hg hs; exact ⟨Dr.step hk hg hs, fun k => by rw [upd_ne u _ (by decide)]; exact (f22 (k.resolve_left (by decide))), fun k => by rw [upd_ne u _ (by decide)]; exact (f23 (k.resolve_left (by decide))), fun k => by rw [upd_ne u _ (by decide)]; exact (f24 (k.resolve_left (by decide))), fun _ => by rw [upd_same]; exact ⟨_, rfl⟩, fun k => by rw [upd_ne u _ (by decide)]; exact (f26 (k.resolve_left (by decide))), fun k => by rw [upd_ne u _ (by decide)]; exact (f31 (k.resolve_left (by decide))), fun k => by rw [upd_ne u _ (by decide)]; exact (f32 (k.resolve_left (by decide))), fun k => by rw [upd_ne u _ (by decide)]; exact (f33 (k.resolve_left (by decide))), fun k => by rw [upd_ne u _ (by decide)]; exact (f34 (k.resolve_left (by decide))), fun k => by rw [upd_ne u _ (by decide)]; exact (f35 (k.resolve_left (by decide))), fun k => by rw [upd_ne u _ (by decide)]; exact (f36 (k.resolve_left (by decide))), fun k => by rw [upd_ne u _ (by decide)]; exact (f37 (k.resolve_left (by decide))), trivial⟩
        · intro u L W hn hd hJ
          obtain ⟨hk, f22, f23, f24, f25, f26, f31, f32, f33, f34, f35, f36, f37, _⟩ := hJ
          have hnd := hk.2
          obtain ⟨x25, e25⟩ := f25 (hd 7 (by kernel_rfl))
          intro K hK
          simp only [puts, Act.put, List.setIfInBounds_toArray, List.set_cons_zero, List.set_cons_succ, e25]
          go_simp
          all_goals (try go_wp2_with fail)
          all_goals
            apply Shut.go3 (W := W) (g := g) hK
            · simp only [puts, Act.put, List.setIfInBounds_toArray, List.set_cons_zero, List.set_cons_succ, e25]; rfl
            · first | with_reducible assumption | with_reducible exact World.grownBy.refl _ _ | exact World.grownBy_alloc _ _ _
            · first | with_reducible assumption | exact Src.alloc hnd _
            · intro hg hs; exact ⟨Dr.step hk hg hs, fun k => by rw [upd_ne u _ (by decide)]; exact (f22 (k.resolve_left (by decide))), fun k => by rw [upd_ne u _ (by decide)]; exact (f23 (k.resolve_left (by decide))), fun k => by rw [upd_ne u _ (by decide)]; exact (f24 (k.resolve_left (by decide))), fun k => by rw [upd_ne u _ (by decide)]; exact (f25 (k.resolve_left (by decide))), fun _ => by rw [upd_same]; exact ⟨_, rfl⟩, fun k => by rw [upd_ne u _ (by decide)]; exact (f31 (k.resolve_left (by decide))), fun k => by rw [upd_ne u _ (by decide)]; exact (f32 (k.resolve_left (by decide))), fun k => by rw [upd_ne u _ (by decide)]; exact (f33 (k.resolve_left (by decide))), fun k => by rw [upd_ne u _ (by decide)]; exact (f34 (k.resolve_left (by decide))), fun k => by rw [upd_ne u _ (by decide)]; exact (f35 (k.resolve_left (by decide))), fun k => by rw [upd_ne u _ (by decide)]; exact (f36 (k.resolve_left (by decide))), fun k => by rw [upd_ne u _ (by decide)]; exact (f37 (k.resolve_left (by decide))), trivial⟩
        · intro u L W hn hd hJ
          obtain ⟨hk, f22, f23, f24, f25, f26, f31, f32, f33, f34, f35, f36, f37, _⟩ := hJ
          have hnd := hk.2
          intro K hK
          simp only [puts, Act.put, List.setIfInBounds_toArray, List.set_cons_zero, List.set_cons_succ]
          go_simp; (go_at_call 45; (with_reducible refine (spec_l01Next g 81 _ hnd (by decide)).mono ?_); rintro e w9 ⟨⟨xx, rfl, hxx⟩, hg, hs⟩)
          all_goals (try go_wp2_with fail)
          all_goals
            apply Shut.go3 (W := W) (g := g) hK
            · simp only [puts, Act.put, List.setIfInBounds_toArray, List.set_cons_zero, List.set_cons_succ]; rfl
            · first | with_reducible assumption | with_reducible exact World.grownBy.refl _ _ | exact World.grownBy_alloc _ _ _
            · first | with_reducible assumption | exact Src.alloc hnd _
            · intro hg hs; exact ⟨Dr.step hk hg hs, fun k => by rw [upd_ne u _ (by decide)]; exact (f22 (k.resolve_left (by decide))), fun k => by rw [upd_ne u _ (by decide)]; exact (f23 (k.resolve_left (by decide))), fun k => by rw [upd_ne u _ (by decide)]; exact (f24 (k.resolve_left (by decide))), fun k => by rw [upd_ne u _ (by decide)]; exact (f25 (k.resolve_left (by decide))), fun k => by rw [upd_ne u _ (by decide)]; exact (f26 (k.resolve_left (by decide))), fun _ => by rw [upd_same]; exact ⟨_, rfl⟩, fun k => by rw [upd_ne u _ (by decide)]; exact (f32 (k.resolve_left (by decide))), fun k => by rw [upd_ne u _ (by decide)]; exact (f33 (k.resolve_left (by decide))), fun k => by rw [upd_ne u _ (by decide)]; exact (f34 (k.resolve_left (by decide))), fun k => by rw [upd_ne u _ (by decide)]; exact (f35 (k.resolve_left (by decide))), fun k => by rw [upd_ne u _ (by decide)]; exact (f36 (k.resolve_left (by decide))), fun k => by rw [upd_ne u _ (by decide)]; exact (f37 (k.resolve_left (by decide))), trivial⟩
        · intro u L W hn hd hJ
          obtain ⟨hk, f22, f23, f24, f25, f26, f31, f32, f33, f34, f35, f36, f37, _⟩ := hJ
          have hnd := hk.2
          obtain ⟨x31, e31⟩ := f31 (hd 13 (by kernel_rfl))
          intro K hK
          simp only [puts, Act.put, List.setIfInBounds_toArray, List.set_cons_zero, List.set_cons_succ, e31]
          go_simp
          all_goals (try go_wp2_with fail)
          all_goals
            apply Shut.go3 (W := W) (g := g) hK
            · simp only [puts, Act.put, List.setIfInBounds_toArray, List.set_cons_zero, List.set_cons_succ, e31]; rfl
            · first | with_reducible assumption | with_reducible exact World.grownBy.refl _ _ | exact World.grownBy_alloc _ _ _
            · first | with_reducible assumption | exact Src.alloc hnd _
            · intro hg hs; exact ⟨Dr.step hk hg hs, fun k => by rw [upd_ne u _ (by decide)]; exact (f22 (k.resolve_left (by decide))), fun k => by rw [upd_ne u _ (by decide)]; exact (f23 (k.resolve_left (by decide))), fun k => by rw [upd_ne u _ (by decide)]; exact (f24 (k.resolve_left (by decide))), fun k => by rw [upd_ne u _ (by decide)]; exact (f25 (k.resolve_left (by decide))), fun k => by rw [upd_ne u _ (by decide)]; exact (f26 (k.resolve_left (by decide))), fun k => by rw [upd_ne u _ (by decide)]; exact (f31 (k.resolve_left (by decide))), fun _ => by rw [upd_same]; exact ⟨_, rfl⟩, fun k => by rw [upd_ne u _ (by decide)]; exact (f33 (k.resolve_left (by decide))), fun k => by rw [upd_ne u _ (by decide)]; exact (f34 (k.resolve_left (by decide))), fun k => by rw [upd_ne u _ (by decide)]; exact (f35 (k.resolve_left (by decide))), fun k => by rw [upd_ne u _ (by decide)]; exact (f36 (k.resolve_left (by decide))), fun k => by rw [upd_ne u _ (by decide)]; exact (f37 (k.resolve_left (by decide))), trivial⟩
        · intro u L W hn hd hJ
          obtain ⟨hk, f22, f23, f24, f25, f26, f31, f32, f33, f34, f35, f36, f37, _⟩ := hJ
          have hnd := hk.2
          obtain ⟨x32, e32⟩ := f32 (hd 14 (by kernel_rfl))
          intro K hK
          simp only [puts, Act.put, List.setIfInBounds_toArray, List.set_cons_zero, List.set_cons_succ, e32]
          go_simp
          all_goals (try go_wp2_with fail)
          all_goals
            apply Shut.go3 (W := W) (g := g) hK
            · simp only [puts, Act.put, List.setIfInBounds_toArray, List.set_cons_zero, List.set_cons_succ, e32]; rfl
            · first | with_reducible assumption | with_reducible exact World.grownBy.refl _ _ | exact World.grownBy_alloc _ _ _
            · first | with_reducible assumption | exact Src.alloc hnd _
            · intro hg hs; exact ⟨Dr.step hk hg hs, fun k => by rw [upd_ne u _ (by decide)]; exact (f22 (k.resolve_left (by decide))), fun k => by rw [upd_ne u _ (by decide)]; exact (f23 (k.resolve_left (by decide))), fun k => by rw [upd_ne u _ (by decide)]; exact (f24 (k.resolve_left (by decide))), fun k => by rw [upd_ne u _ (by decide)]; exact (f25 (k.resolve_left (by decide))), fun k => by rw [upd_ne u _ (by decide)]; exact (f26 (k.resolve_left (by decide))), fun k => by rw [upd_ne u _ (by decide)]; exact (f31 (k.resolve_left (by decide))), fun k => by rw [upd_ne u _ (by decide)]; exact (f32 (k.resolve_left (by decide))), fun _ => by rw [upd_same]; exact ⟨_, rfl⟩, fun k => by rw [upd_ne u _ (by decide)]; exact (f34 (k.resolve_left (by decide))), fun k => by rw [upd_ne u _ (by decide)]; exact (f35 (k.resolve_left (by decide))), fun k => by rw [upd_ne u _ (by decide)]; exact (f36 (k.resolve_left (by decide))), fun k => by rw [upd_ne u _ (by decide)]; exact (f37 (k.resolve_left (by decide))), trivial⟩
        · intro u L W hn hd hJ
          obtain ⟨hk, f22, f23, f24, f25, f26, f31, f32, f33, f34, f35, f36, f37, _⟩ := hJ
          have hnd := hk.2
          obtain ⟨x33, e33⟩ := f33 (hd 15 (by kernel_rfl))
          intro K hK
          simp only [puts, Act.put, List.setIfInBounds_toArray, List.set_cons_zero, List.set_cons_succ, e33]
          go_simp
          all_goals (try go_wp2_with fail)
          all_goals
            apply Shut.go3 (W := W) (g := g) hK
            · simp only [puts, Act.put, List.setIfInBounds_toArray, List.set_cons_zero, List.set_cons_succ, e33]; rfl
            · first | with_reducible assumption | with_reducible exact World.grownBy.refl _ _ | exact World.grownBy_alloc _ _ _
            · first | with_reducible assumption | exact Src.alloc hnd _
            · intro hg hs; exact ⟨Dr.step hk hg hs, fun k => by rw [upd_ne u _ (by decide)]; exact (f22 (k.resolve_left (by decide))), fun k => by rw [upd_ne u _ (by decide)]; exact (f23 (k.resolve_left (by decide))), fun k => by rw [upd_ne u _ (by decide)]; exact (f24 (k.resolve_left (by decide))), fun k => by rw [upd_ne u _ (by decide)]; exact (f25 (k.resolve_left (by decide))), fun k => by rw [upd_ne u _ (by decide)]; exact (f26 (k.resolve_left (by decide))), fun k => by rw [upd_ne u _ (by decide)]; exact (f31 (k.resolve_left (by decide))), fun k => by rw [upd_ne u _ (by decide)]; exact (f32 (k.resolve_left (by decide))), fun k => by rw [upd_ne u _ (by decide)]; exact (f33 (k.resolve_left (by decide))), fun _ => by rw [upd_same]; exact ⟨_, rfl⟩, fun k => by rw [upd_ne u _ (by decide)]; exact (f35 (k.resolve_left (by decide))), fun k => by rw [upd_ne u _ (by decide)]; exact (f36 (k.resolve_left (by decide))), fun k => by rw [upd_ne u _ (by decide)]; exact (f37 (k.resolve_left (by decide))), trivial⟩
        · intro u L W hn hd hJ
          obtain ⟨hk, f22, f23, f24, f25, f26, f31, f32, f33, f34, f35, f36, f37, _⟩ := hJ
          have hnd := hk.2
          obtain ⟨x34, e34⟩ := f34 (hd 16 (by kernel_rfl))
          intro K hK
          simp only [puts, Act.put, List.setIfInBounds_toArray, List.set_cons_zero, List.set_cons_succ, e34]
          go_simp
          all_goals (try go_wp2_with fail)
          all_goals
            apply Shut.go3 (W := W) (g := g) hK
            · simp only [puts, Act.put, List.setIfInBounds_toArray, List.set_cons_zero, List.set_cons_succ, e34]; rfl
            · first | with_reducible assumption | with_reducible exact World.grownBy.refl _ _ | exact World.grownBy_alloc _ _ _
            · first | with_reducible assumption | exact Src.alloc hnd _
            · intro hg hs; exact ⟨Dr.step hk hg hs, fun k => by rw [upd_ne u _ (by decide)]; exact (f22 (k.resolve_left (by decide))), fun k => by rw [upd_ne u _ (by decide)]; exact (f23 (k.resolve_left (by decide))), fun k => by rw [upd_ne u _ (by decide)]; exact (f24 (k.resolve_left (by decide))), fun k => by rw [upd_ne u _ (by decide)]; exact (f25 (k.resolve_left (by decide))), fun k => by rw [upd_ne u _ (by decide)]; exact (f26 (k.resolve_left (by decide))), fun k => by rw [upd_ne u _ (by decide)]; exact (f31 (k.resolve_left (by decide))), fun k => by rw [upd_ne u _ (by decide)]; exact (f32 (k.resolve_left (by decide))), fun k => by rw [upd_ne u _ (by decide)]; exact (f33 (k.resolve_left (by decide))), fun k => by rw [upd_ne u _ (by decide)]; exact (f34 (k.resolve_left (by decide))), fun _ => by rw [upd_same]; exact ⟨_, rfl⟩, fun k => by rw [upd_ne u _ (by decide)]; exact (f36 (k.resolve_left (by decide))), fun k => by rw [upd_ne u _ (by decide)]; exact (f37 (k.resolve_left (by decide))), trivial⟩
        · intro u L W hn hd hJ
          obtain ⟨hk, f22, f23, f24, f25, f26, f31, f32, f33, f34, f35, f36, f37, _⟩ := hJ
          have hnd := hk.2
          obtain ⟨x26, e26⟩ := f26 (hd 8 (by kernel_rfl))
          obtain ⟨x35, e35⟩ := f35 (hd 17 (by kernel_rfl))
          intro K hK
          simp only [puts, Act.put, List.setIfInBounds_toArray, List.set_cons_zero, List.set_cons_succ, e26, e35]
          go_simp
          all_goals (try go_wp2_with fail)
          all_goals
            apply Shut.go3 (W := W) (g := g) hK
            · simp only [puts, Act.put, List.setIfInBounds_toArray, List.set_cons_zero, List.set_cons_succ, e26, e35]; rfl
            · first | with_reducible assumption | with_reducible exact World.grownBy.refl _ _ | exact World.grownBy_alloc _ _ _
            · first | with_reducible assumption | exact Src.alloc hnd _
            · intro hg hs; exact ⟨Dr.step hk hg hs, fun k => by rw [upd_ne u _ (by decide)]; exact (f22 (k.resolve_left (by decide))), fun k => by rw [upd_ne u _ (by decide)]; exact (f23 (k.resolve_left (by decide))), fun k => by rw [upd_ne u _ (by decide)]; exact (f24 (k.resolve_left (by decide))), fun k => by rw [upd_ne u _ (by decide)]; exact (f25 (k.resolve_left (by decide))), fun k => by rw [upd_ne u _ (by decide)]; exact (f26 (k.resolve_left (by decide))), fun k => by rw [upd_ne u _ (by decide)]; exact (f31 (k.resolve_left (by decide))), fun k => by rw [upd_ne u _ (by decide)]; exact (f32 (k.resolve_left (by decide))), fun k => by rw [upd_ne u _ (by decide)]; exact (f33 (k.resolve_left (by decide))), fun k => by rw [upd_ne u _ (by decide)]; exact (f34 (k.resolve_left (by decide))), fun k => by rw [upd_ne u _ (by decide)]; exact (f35 (k.resolve_left (by decide))), fun _ => by rw [upd_same]; exact ⟨_, _, rfl⟩, fun k => by rw [upd_ne u _ (by decide)]; exact (f37 (k.resolve_left (by decide))), trivial⟩
        · intro u L W hn hd hJ
          obtain ⟨hk, f22, f23, f24, f25, f26, f31, f32, f33, f34, f35, f36, f37, _⟩ := hJ
          have hnd := hk.2
          intro K hK
          simp only [puts, Act.put, List.setIfInBounds_toArray, List.set_cons_zero, List.set_cons_succ]
          go_simp
          all_goals (try go_wp2_with fail)
          all_goals
            apply Shut.go3 (W := W) (g := g) hK
            · simp only [puts, Act.put, List.setIfInBounds_toArray, List.set_cons_zero, List.set_cons_succ]; rfl
            · first | with_reducible assumption | with_reducible exact World.grownBy.refl _ _ | exact World.grownBy_alloc _ _ _
            · first | with_reducible assumption | exact Src.alloc hnd _
            · intro hg hs; exact ⟨Dr.step hk hg hs, fun k => by rw [upd_ne u _ (by decide)]; exact (f22 (k.resolve_left (by decide))), fun k => by rw [upd_ne u _ (by decide)]; exact (f23 (k.resolve_left (by decide))), fun k => by rw [upd_ne u _ (by decide)]; exact (f24 (k.resolve_left (by decide))), fun k => by rw [upd_ne u _ (by decide)]; exact (f25 (k.resolve_left (by decide))), fun k => by rw [upd_ne u _ (by decide)]; exact (f26 (k.resolve_left (by decide))), fun k => by rw [upd_ne u _ (by decide)]; exact (f31 (k.resolve_left (by decide))), fun k => by rw [upd_ne u _ (by decide)]; exact (f32 (k.resolve_left (by decide))), fun k => by rw [upd_ne u _ (by decide)]; exact (f33 (k.resolve_left (by decide))), fun k => by rw [upd_ne u _ (by decide)]; exact (f34 (k.resolve_left (by decide))), fun k => by rw [upd_ne u _ (by decide)]; exact (f35 (k.resolve_left (by decide))), fun k => by rw [upd_ne u _ (by decide)]; exact (f36 (k.resolve_left (by decide))), fun _ => upd_same _ _ _, trivial⟩
      · intro u L W hJ hL
        obtain ⟨hk, f22, f23, f24, f25, f26, f31, f32, f33, f34, f35, f36, f37, _⟩ := hJ
        obtain ⟨x22, e22⟩ := f22 (hL 4 (by kernel_rfl))
        obtain ⟨x23, e23⟩ := f23 (hL 5 (by kernel_rfl))
        obtain ⟨x24, e24⟩ := f24 (hL 6 (by kernel_rfl))
        obtain ⟨x25, e25⟩ := f25 (hL 7 (by kernel_rfl))
        obtain ⟨x26, e26⟩ := f26 (hL 8 (by kernel_rfl))
        obtain ⟨x31, e31⟩ := f31 (hL 13 (by kernel_rfl))
        obtain ⟨x32, e32⟩ := f32 (hL 14 (by kernel_rfl))
        obtain ⟨x33, e33⟩ := f33 (hL 15 (by kernel_rfl))
        obtain ⟨x34, e34⟩ := f34 (hL 16 (by kernel_rfl))
        obtain ⟨x35, e35⟩ := f35 (hL 17 (by kernel_rfl))
        obtain ⟨x36_0, x36_1, e36⟩ := f36 (hL 18 (by kernel_rfl))
        obtain e37 := f37 (hL 19 (by kernel_rfl))
        clear hHeld; have hcW := gcell hk.1; have hfW := gfroz hk.1; have hHeld := And.intro (HwE.trans hk.1) hk.2; have lW := hk.1.size
        clear f22
        clear f23
        clear f24
        clear f25
        clear f26
        clear f31
        clear f32
        clear f33
        clear f34
        clear f35
        clear f36
        clear f37
        simp only [puts, Act.put, List.setIfInBounds_toArray, List.set_cons_zero, List.set_cons_succ, setAll, Array.replicate, e22, e23, e24, e25, e26, e31, e32, e33, e34, e35, e36, e37]
        refine wpAnyH_ready (rs := [20]) (by kernel_rfl) (by simp) ?_; refine (AllReadyH.cons (o := ⟨none, _, _, _, _, _⟩) rfl (fun K hK => ?_) AllReadyH.nil)
        go_simp
        all_goals (try go_wp2_with fail)
        refine hK.out _ _ ?_ (fun hH2 => ?_)
        · have hHg := hHeld.1; have hHs := hHeld.2; exact ⟨(by go_simp; done), (by go_simp; done), (by repeat (first | with_reducible exact World.grownBy.refl _ _ | with_reducible assumption | with_reducible refine gr_alloc ?_ _ | with_reducible refine gr_drew ?_ | with_reducible refine gr_drewN ?_ _ | with_reducible refine gr_new ?_ (by first | exact Nat.le_refl _ | (dsimp only; omega) | (simp; omega)) | with_reducible refine gr_step ?_ (by assumption))), (by repeat (first | with_reducible assumption | with_reducible refine Src.alloc ?_ _ | with_reducible refine Src.drewN ?_ _ | with_reducible refine Src.drew ?_ | with_reducible refine Src.set (by first | (dsimp only; omega) | (simp; omega)) ?_))⟩
        clear hK K hHeld; (have hHeld := hH2.2.2); clear hH2; (try simp only [Act.put])
        refine wpAnyH_done (by kernel_rfl) ?_ _; (try simp only [Act.put, List.setIfInBounds_toArray, List.set_cons_zero, List.set_cons_succ])
        obtain ⟨hgE, hsE⟩ := hHeld
        have v0 : w.heap.size < W.heap.size := (by omega)
        have v1 : w.heap.size + 1 < W.heap.size := (by omega)
        have v2' : w2.heap.size < W.heap.size := (by omega)
        have v3' : w2.heap.size + 1 < W.heap.size := (by omega)
        go_wp2_with fail; (with_reducible refine (spec_l01Next g _ _ (by repeat (first | with_reducible assumption | with_reducible refine Src.alloc ?_ _ | with_reducible refine Src.drewN ?_ _ | with_reducible refine Src.drew ?_ | with_reducible refine Src.set (by first | (dsimp only; omega) | (simp; omega)) ?_)) (by decide)).mono ?_); rintro e w7 ⟨⟨x7, rfl, hx7⟩, hg7, hs7⟩; have hc7 := gcell hg7; have hf7 := gfroz hg7; have lg7 := Src.lt hs7; have nga7 : ¬ w7.heap.size = g := (by omega); have ngb7 : ¬ g = w7.heap.size := (by omega); have hzs7 := hg7.size; (try simp at hzs7); have zx7_0 : w.heap.size < w7.heap.size := (by first | omega | (simp at hzs7; omega)); have zy7_0 : w.heap.size < w7.heap.size + 1 := (by omega); have zw7_0 : ¬ w7.heap.size = w.heap.size := (by omega); have zv7_0 : ¬ w.heap.size = w7.heap.size := (by omega); have zu7_0 : w.heap.size < w7.heap.size + 1 + 1 := (by omega); have zt7_0 : ¬ w7.heap.size + 1 = w.heap.size := (by omega); have zr7_0 : ¬ w.heap.size = w7.heap.size + 1 := (by omega); have zx7_1 : w.heap.size + 1 < w7.heap.size := (by first | omega | (simp at hzs7; omega)); have zy7_1 : w.heap.size + 1 < w7.heap.size + 1 := (by omega); have zw7_1 : ¬ w7.heap.size = w.heap.size + 1 := (by omega); have zv7_1 : ¬ w.heap.size + 1 = w7.heap.size := (by omega); have zu7_1 : w.heap.size + 1 < w7.heap.size + 1 + 1 := (by omega); have zt7_1 : ¬ w7.heap.size + 1 = w.heap.size + 1 := (by omega); have zr7_1 : ¬ w.heap.size + 1 = w7.heap.size + 1 := (by omega); have zx7_2 : w2.heap.size < w7.heap.size := (by first | omega | (simp at hzs7; omega)); have zy7_2 : w2.heap.size < w7.heap.size + 1 := (by omega); have zw7_2 : ¬ w7.heap.size = w2.heap.size := (by omega); have zv7_2 : ¬ w2.heap.size = w7.heap.size := (by omega); have zu7_2 : w2.heap.size < w7.heap.size + 1 + 1 := (by omega); have zt7_2 : ¬ w7.heap.size + 1 = w2.heap.size := (by omega); have zr7_2 : ¬ w2.heap.size = w7.heap.size + 1 := (by omega); have zx7_3 : w2.heap.size + 1 < w7.heap.size := (by first | omega | (simp at hzs7; omega)); have zy7_3 : w2.heap.size + 1 < w7.heap.size + 1 := (by omega); have zw7_3 : ¬ w7.heap.size = w2.heap.size + 1 := (by omega); have zv7_3 : ¬ w2.heap.size + 1 = w7.heap.size := (by omega); have zu7_3 : w2.heap.size + 1 < w7.heap.size + 1 + 1 := (by omega); have zt7_3 : ¬ w7.heap.size + 1 = w2.heap.size + 1 := (by omega); have zr7_3 : ¬ w2.heap.size + 1 = w7.heap.size + 1 := (by omega)
        clear hx7
        by_cases k7 : x7 = 0
        · subst k7
          go_upto_region 6 with fail
          go_region
          go_wp2
          simp [bodyPost, results, Try.results79, go_sem, *]
          first | exact ⟨⟨_, _, _, _, _, _, _, _, _, _, rfl⟩, (by repeat (first | with_reducible exact World.grownBy.refl _ _ | with_reducible assumption | with_reducible refine gr_alloc ?_ _ | with_reducible refine gr_drew ?_ | with_reducible refine gr_drewN ?_ _ | with_reducible refine gr_new ?_ (by first | exact Nat.le_refl _ | (dsimp only; omega) | (simp; omega)) | with_reducible refine gr_step ?_ (by assumption))), (by repeat (first | with_reducible assumption | with_reducible refine Src.alloc ?_ _ | with_reducible refine Src.drewN ?_ _ | with_reducible refine Src.drew ?_ | with_reducible refine Src.set (by first | (dsimp only; omega) | (simp; omega)) ?_))⟩ | exact ⟨(by repeat (first | with_reducible exact World.grownBy.refl _ _ | with_reducible assumption | with_reducible refine gr_alloc ?_ _ | with_reducible refine gr_drew ?_ | with_reducible refine gr_drewN ?_ _ | with_reducible refine gr_new ?_ (by first | exact Nat.le_refl _ | (dsimp only; omega) | (simp; omega)) | with_reducible refine gr_step ?_ (by assumption))), (by repeat (first | with_reducible assumption | with_reducible refine Src.alloc ?_ _ | with_reducible refine Src.drewN ?_ _ | with_reducible refine Src.drew ?_ | with_reducible refine Src.set (by first | (dsimp only; omega) | (simp; omega)) ?_))⟩
        · have k8 : (x7 == 0) = false := beq_eq_false_iff_ne.2 k7
          go_upto_region 6 with fail
          go_region
          go_wp2
          simp [bodyPost, results, Try.results79, go_sem, *]
          first | exact ⟨⟨_, _, _, _, _, _, _, _, _, _, rfl⟩, (by repeat (first | with_reducible exact World.grownBy.refl _ _ | with_reducible assumption | with_reducible refine gr_alloc ?_ _ | with_reducible refine gr_drew ?_ | with_reducible refine gr_drewN ?_ _ | with_reducible refine gr_new ?_ (by first | exact Nat.le_refl _ | (dsimp only; omega) | (simp; omega)) | with_reducible refine gr_step ?_ (by assumption))), (by repeat (first | with_reducible assumption | with_reducible refine Src.alloc ?_ _ | with_reducible refine Src.drewN ?_ _ | with_reducible refine Src.drew ?_ | with_reducible refine Src.set (by first | (dsimp only; omega) | (simp; omega)) ?_))⟩ | exact ⟨(by repeat (first | with_reducible exact World.grownBy.refl _ _ | with_reducible assumption | with_reducible refine gr_alloc ?_ _ | with_reducible refine gr_drew ?_ | with_reducible refine gr_drewN ?_ _ | with_reducible refine gr_new ?_ (by first | exact Nat.le_refl _ | (dsimp only; omega) | (simp; omega)) | with_reducible refine gr_step ?_ (by assumption))), (by repeat (first | with_reducible assumption | with_reducible refine Src.alloc ?_ _ | with_reducible refine Src.drewN ?_ _ | with_reducible refine Src.drew ?_ | with_reducible refine Src.set (by first | (dsimp only; omega) | (simp; omega)) ?_))⟩
  · go_wp2_with fail; (with_reducible refine (spec_l01Next g _ _ (by repeat (first | with_reducible assumption | with_reducible refine Src.alloc ?_ _ | with_reducible refine Src.drewN ?_ _ | with_reducible refine Src.drew ?_ | with_reducible refine Src.set (by first | (dsimp only; omega) | (simp; omega)) ?_)) (by decide)).mono ?_); rintro e w7 ⟨⟨x7, rfl, hx7⟩, hg7, hs7⟩; have hc7 := gcell hg7; have hf7 := gfroz hg7; have lg7 := Src.lt hs7; have nga7 : ¬ w7.heap.size = g := (by omega); have ngb7 : ¬ g = w7.heap.size := (by omega); have hzs7 := hg7.size; (try simp at hzs7); have zx7_0 : w.heap.size < w7.heap.size := (by first | omega | (simp at hzs7; omega)); have zy7_0 : w.heap.size < w7.heap.size + 1 := (by omega); have zw7_0 : ¬ w7.heap.size = w.heap.size := (by omega); have zv7_0 : ¬ w.heap.size = w7.heap.size := (by omega); have zu7_0 : w.heap.size < w7.heap.size + 1 + 1 := (by omega); have zt7_0 : ¬ w7.heap.size + 1 = w.heap.size := (by omega); have zr7_0 : ¬ w.heap.size = w7.heap.size + 1 := (by omega); have zx7_1 : w.heap.size + 1 < w7.heap.size := (by first | omega | (simp at hzs7; omega)); have zy7_1 : w.heap.size + 1 < w7.heap.size + 1 := (by omega); have zw7_1 : ¬ w7.heap.size = w.heap.size + 1 := (by omega); have zv7_1 : ¬ w.heap.size + 1 = w7.heap.size := (by omega); have zu7_1 : w.heap.size + 1 < w7.heap.size + 1 + 1 := (by omega); have zt7_1 : ¬ w7.heap.size + 1 = w.heap.size + 1 := (by omega); have zr7_1 : ¬ w.heap.size + 1 = w7.heap.size + 1 := (by omega); have zx7_2 : w2.heap.size < w7.heap.size := (by first | omega | (simp at hzs7; omega)); have zy7_2 : w2.heap.size < w7.heap.size + 1 := (by omega); have zw7_2 : ¬ w7.heap.size = w2.heap.size := (by omega); have zv7_2 : ¬ w2.heap.size = w7.heap.size := (by omega); have zu7_2 : w2.heap.size < w7.heap.size + 1 + 1 := (by omega); have zt7_2 : ¬ w7.heap.size + 1 = w2.heap.size := (by omega); have zr7_2 : ¬ w2.heap.size = w7.heap.size + 1 := (by omega); have zx7_3 : w2.heap.size + 1 < w7.heap.size := (by first | omega | (simp at hzs7; omega)); have zy7_3 : w2.heap.size + 1 < w7.heap.size + 1 := (by omega); have zw7_3 : ¬ w7.heap.size = w2.heap.size + 1 := (by omega); have zv7_3 : ¬ w2.heap.size + 1 = w7.heap.size := (by omega); have zu7_3 : w2.heap.size + 1 < w7.heap.size + 1 + 1 := (by omega); have zt7_3 : ¬ w7.heap.size + 1 = w2.heap.size + 1 := (by omega); have zr7_3 : ¬ w2.heap.size + 1 = w7.heap.size + 1 := (by omega)
    clear hx7
    by_cases k7 : x7 = 0
    · subst k7
      go_upto_region 6 with fail
      go_region
      go_wp2
      simp [bodyPost, results, Try.results79, go_sem, *]
      first | exact ⟨⟨_, _, _, _, _, _, _, _, _, _, rfl⟩, (by repeat (first | with_reducible exact World.grownBy.refl _ _ | with_reducible assumption | with_reducible refine gr_alloc ?_ _ | with_reducible refine gr_drew ?_ | with_reducible refine gr_drewN ?_ _ | with_reducible refine gr_new ?_ (by first | exact Nat.le_refl _ | (dsimp only; omega) | (simp; omega)) | with_reducible refine gr_step ?_ (by assumption))), (by repeat (first | with_reducible assumption | with_reducible refine Src.alloc ?_ _ | with_reducible refine Src.drewN ?_ _ | with_reducible refine Src.drew ?_ | with_reducible refine Src.set (by first | (dsimp only; omega) | (simp; omega)) ?_))⟩ | exact ⟨(by repeat (first | with_reducible exact World.grownBy.refl _ _ | with_reducible assumption | with_reducible refine gr_alloc ?_ _ | with_reducible refine gr_drew ?_ | with_reducible refine gr_drewN ?_ _ | with_reducible refine gr_new ?_ (by first | exact Nat.le_refl _ | (dsimp only; omega) | (simp; omega)) | with_reducible refine gr_step ?_ (by assumption))), (by repeat (first | with_reducible assumption | with_reducible refine Src.alloc ?_ _ | with_reducible refine Src.drewN ?_ _ | with_reducible refine Src.drew ?_ | with_reducible refine Src.set (by first | (dsimp only; omega) | (simp; omega)) ?_))⟩
    · have k8 : (x7 == 0) = false := beq_eq_false_iff_ne.2 k7
      go_upto_region 6 with fail
      go_region
      go_wp2
      simp [bodyPost, results, Try.results79, go_sem, *]
      first | exact ⟨⟨_, _, _, _, _, _, _, _, _, _, rfl⟩, (by repeat (first | with_reducible exact World.grownBy.refl _ _ | with_reducible assumption | with_reducible refine gr_alloc ?_ _ | with_reducible refine gr_drew ?_ | with_reducible refine gr_drewN ?_ _ | with_reducible refine gr_new ?_ (by first | exact Nat.le_refl _ | (dsimp only; omega) | (simp; omega)) | with_reducible refine gr_step ?_ (by assumption))), (by repeat (first | with_reducible assumption | with_reducible refine Src.alloc ?_ _ | with_reducible refine Src.drewN ?_ _ | with_reducible refine Src.drew ?_ | with_reducible refine Src.set (by first | (dsimp only; omega) | (simp; omega)) ?_))⟩ | exact ⟨(by repeat (first | with_reducible exact World.grownBy.refl _ _ | with_reducible assumption | with_reducible refine gr_alloc ?_ _ | with_reducible refine gr_drew ?_ | with_reducible refine gr_drewN ?_ _ | with_reducible refine gr_new ?_ (by first | exact Nat.le_refl _ | (dsimp only; omega) | (simp; omega)) | with_reducible refine gr_step ?_ (by assumption))), (by repeat (first | with_reducible assumption | with_reducible refine Src.alloc ?_ _ | with_reducible refine Src.drewN ?_ _ | with_reducible refine Src.drew ?_ | with_reducible refine Src.set (by first | (dsimp only; omega) | (simp; omega)) ?_))⟩
end Go.Proofs.Ytnmnibpcklcmgaa
