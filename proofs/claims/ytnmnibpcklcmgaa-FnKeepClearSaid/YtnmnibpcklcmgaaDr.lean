/- Walks: a room and two boats are drawn. -/
import Derived.Test.YtnmnibpcklcmgaaDw
import Derived.Test.YtnmnibpcklcmgaaDt
import Derived.Test.YtnmnibpcklcmgaaOw
import Derived.Test.YtnmnibpcklcmgaaIw
namespace Go.Proofs.Ytnmnibpcklcmgaa
open Go.RowKit


/-- What a draw of two boats returns. -/
def TwoB (w : World) (g : Nat) (e : Ending) (w' : World) : Prop :=
  (∃ (a b c d l : Int) (t : Bool) (a' b' c' d' l' : Int) (t' : Bool), e = .returned (.tuple #[.agg #[.int .i64 a, .int .i64 b, .int .i64 c, .int .i64 d, .int .i64 l, .bool t], .agg #[.int .i64 a', .int .i64 b', .int .i64 c', .int .i64 d', .int .i64 l', .bool t']])) ∧ w.grownBy w' (some g) ∧ Src w' g
def FBt (a b c d l : Int) (v : Value) : Prop := ∃ t : Bool, v = .agg #[.int .i64 a, .int .i64 b, .int .i64 c, .int .i64 d, .int .i64 l, .bool t]
set_option maxRecDepth 100000 in
set_option maxHeartbeats 8000000 in
theorem spec_l10Draw (g : Nat) (w : World) (h : Src w g) : Calls Try.prog 53 #[.pointer (some ⟨g, 0, none⟩)] w (TwoB w g) := by
  have ng := Src.lt h
  have nz0 : ¬ w.heap.size = g := by omega
  have nz1 : ¬ g = w.heap.size := by omega
  have nz2 : ¬ w.heap.size + 1 = g := by omega
  have nz3 : ¬ g = w.heap.size + 1 := by omega
  go_enter Try.func53, Try.ntmps53
  go_wp2_with fail; (with_reducible refine (spec_l09DrawTwo g _ (by repeat (first | with_reducible assumption | with_reducible refine Src.alloc ?_ _ | with_reducible refine Src.drewN ?_ _ | with_reducible refine Src.drew ?_ | with_reducible refine Src.set (by first | (dsimp only; omega) | (simp; omega)) ?_))).mono ?_); rintro e w1 ⟨⟨a1, b1, c1, d1, l1, aa, bb, cc, dd, ll, rfl⟩, hg1, hs1⟩; have hc1 := gcell hg1; have hf1 := gfroz hg1; have lg1 := Src.lt hs1; have nga1 : ¬ w1.heap.size = g := (by omega); have ngb1 : ¬ g = w1.heap.size := (by omega); have hzs1 := hg1.size; (try simp at hzs1); have zx1_0 : w.heap.size < w1.heap.size := (by first | omega | (simp at hzs1; omega)); have zy1_0 : w.heap.size < w1.heap.size + 1 := (by omega); have zw1_0 : ¬ w1.heap.size = w.heap.size := (by omega); have zv1_0 : ¬ w.heap.size = w1.heap.size := (by omega); have zu1_0 : w.heap.size < w1.heap.size + 1 + 1 := (by omega); have zt1_0 : ¬ w1.heap.size + 1 = w.heap.size := (by omega); have zr1_0 : ¬ w.heap.size = w1.heap.size + 1 := (by omega); have zx1_1 : w.heap.size + 1 < w1.heap.size := (by first | omega | (simp at hzs1; omega)); have zy1_1 : w.heap.size + 1 < w1.heap.size + 1 := (by omega); have zw1_1 : ¬ w1.heap.size = w.heap.size + 1 := (by omega); have zv1_1 : ¬ w.heap.size + 1 = w1.heap.size := (by omega); have zu1_1 : w.heap.size + 1 < w1.heap.size + 1 + 1 := (by omega); have zt1_1 : ¬ w1.heap.size + 1 = w.heap.size + 1 := (by omega); have zr1_1 : ¬ w.heap.size + 1 = w1.heap.size + 1 := (by omega)
  have ra0_0 : w1.cell? ⟨w.heap.size, 0, none⟩ = some (.int .i64 0) := by rw [hc1 _ _ (by first | (simp; done) | (simp; omega)) (by omega)]; go_simp
  have rb0_0 : w1.frozen? ⟨w.heap.size, 0, none⟩ = false := by rw [hf1 _ _ (by first | (simp; done) | (simp; omega)) (by omega)]; go_simp
  have ra0_1 : w1.cell? ⟨w.heap.size, 1, none⟩ = some (.int .i64 0) := by rw [hc1 _ _ (by first | (simp; done) | (simp; omega)) (by omega)]; go_simp
  have rb0_1 : w1.frozen? ⟨w.heap.size, 1, none⟩ = false := by rw [hf1 _ _ (by first | (simp; done) | (simp; omega)) (by omega)]; go_simp
  have ra0_2 : w1.cell? ⟨w.heap.size, 2, none⟩ = some (.int .i64 0) := by rw [hc1 _ _ (by first | (simp; done) | (simp; omega)) (by omega)]; go_simp
  have rb0_2 : w1.frozen? ⟨w.heap.size, 2, none⟩ = false := by rw [hf1 _ _ (by first | (simp; done) | (simp; omega)) (by omega)]; go_simp
  have ra0_3 : w1.cell? ⟨w.heap.size, 3, none⟩ = some (.int .i64 0) := by rw [hc1 _ _ (by first | (simp; done) | (simp; omega)) (by omega)]; go_simp
  have rb0_3 : w1.frozen? ⟨w.heap.size, 3, none⟩ = false := by rw [hf1 _ _ (by first | (simp; done) | (simp; omega)) (by omega)]; go_simp
  have ra0_4 : w1.cell? ⟨w.heap.size, 4, none⟩ = some (.int .i64 0) := by rw [hc1 _ _ (by first | (simp; done) | (simp; omega)) (by omega)]; go_simp
  have rb0_4 : w1.frozen? ⟨w.heap.size, 4, none⟩ = false := by rw [hf1 _ _ (by first | (simp; done) | (simp; omega)) (by omega)]; go_simp
  have ra0_5 : w1.cell? ⟨w.heap.size, 5, none⟩ = some (.bool false) := by rw [hc1 _ _ (by first | (simp; done) | (simp; omega)) (by omega)]; go_simp
  have rb0_5 : w1.frozen? ⟨w.heap.size, 5, none⟩ = false := by rw [hf1 _ _ (by first | (simp; done) | (simp; omega)) (by omega)]; go_simp
  have ra1_0 : w1.cell? ⟨w.heap.size + 1, 0, none⟩ = some (.int .i64 0) := by rw [hc1 _ _ (by first | (simp; done) | (simp; omega)) (by omega)]; go_simp
  have rb1_0 : w1.frozen? ⟨w.heap.size + 1, 0, none⟩ = false := by rw [hf1 _ _ (by first | (simp; done) | (simp; omega)) (by omega)]; go_simp
  have ra1_1 : w1.cell? ⟨w.heap.size + 1, 1, none⟩ = some (.int .i64 0) := by rw [hc1 _ _ (by first | (simp; done) | (simp; omega)) (by omega)]; go_simp
  have rb1_1 : w1.frozen? ⟨w.heap.size + 1, 1, none⟩ = false := by rw [hf1 _ _ (by first | (simp; done) | (simp; omega)) (by omega)]; go_simp
  have ra1_2 : w1.cell? ⟨w.heap.size + 1, 2, none⟩ = some (.int .i64 0) := by rw [hc1 _ _ (by first | (simp; done) | (simp; omega)) (by omega)]; go_simp
  have rb1_2 : w1.frozen? ⟨w.heap.size + 1, 2, none⟩ = false := by rw [hf1 _ _ (by first | (simp; done) | (simp; omega)) (by omega)]; go_simp
  have ra1_3 : w1.cell? ⟨w.heap.size + 1, 3, none⟩ = some (.int .i64 0) := by rw [hc1 _ _ (by first | (simp; done) | (simp; omega)) (by omega)]; go_simp
  have rb1_3 : w1.frozen? ⟨w.heap.size + 1, 3, none⟩ = false := by rw [hf1 _ _ (by first | (simp; done) | (simp; omega)) (by omega)]; go_simp
  have ra1_4 : w1.cell? ⟨w.heap.size + 1, 4, none⟩ = some (.int .i64 0) := by rw [hc1 _ _ (by first | (simp; done) | (simp; omega)) (by omega)]; go_simp
  have rb1_4 : w1.frozen? ⟨w.heap.size + 1, 4, none⟩ = false := by rw [hf1 _ _ (by first | (simp; done) | (simp; omega)) (by omega)]; go_simp
  have ra1_5 : w1.cell? ⟨w.heap.size + 1, 5, none⟩ = some (.bool false) := by rw [hc1 _ _ (by first | (simp; done) | (simp; omega)) (by omega)]; go_simp
  have rb1_5 : w1.frozen? ⟨w.heap.size + 1, 5, none⟩ = false := by rw [hf1 _ _ (by first | (simp; done) | (simp; omega)) (by omega)]; go_simp
  have G1 := hide (show w.grownBy w1 (some g) from (by repeat (first | with_reducible exact World.grownBy.refl _ _ | with_reducible assumption | with_reducible refine gr_alloc ?_ _ | with_reducible refine gr_drew ?_ | with_reducible refine gr_drewN ?_ _ | with_reducible refine gr_new ?_ (by first | exact Nat.le_refl _ | (dsimp only; omega) | (simp; omega)) | with_reducible refine gr_step ?_ (by assumption))))
  clear hc1 hf1 hg1
  have hg1 := G1.out
  go_upto_region 2 with fail
  obtain ⟨wB, hB⟩ : ∃ W, W = (w1.alloc (.cells #[.int .i64 a1, .int .i64 b1, .int .i64 c1, .int .i64 d1, .int .i64 l1] 52)).alloc (.cells #[.int .i64 aa, .int .i64 bb, .int .i64 cc, .int .i64 dd, .int .i64 ll] 52) := ⟨_, rfl⟩
  have szB : wB.heap.size = w1.heap.size + 1 + 1 := by rw [hB]; simp
  have gB : w.grownBy wB (some g) := by rw [hB]; exact (by repeat (first | with_reducible exact World.grownBy.refl _ _ | with_reducible assumption | with_reducible refine gr_alloc ?_ _ | with_reducible refine gr_drew ?_ | with_reducible refine gr_drewN ?_ _ | with_reducible refine gr_new ?_ (by first | exact Nat.le_refl _ | (dsimp only; omega) | (simp; omega)) | with_reducible refine gr_step ?_ (by assumption)))
  have sB : Src wB g := by rw [hB]; exact (by repeat (first | with_reducible assumption | with_reducible refine Src.alloc ?_ _ | with_reducible refine Src.drewN ?_ _ | with_reducible refine Src.drew ?_ | with_reducible refine Src.set (by first | (dsimp only; omega) | (simp; omega)) ?_))
  have ta0_0 : wB.cell? ⟨w1.heap.size, 0, none⟩ = some (.int .i64 a1) := by rw [hB]; go_simp
  have ta0_1 : wB.cell? ⟨w1.heap.size, 1, none⟩ = some (.int .i64 b1) := by rw [hB]; go_simp
  have ta0_2 : wB.cell? ⟨w1.heap.size, 2, none⟩ = some (.int .i64 c1) := by rw [hB]; go_simp
  have ta0_3 : wB.cell? ⟨w1.heap.size, 3, none⟩ = some (.int .i64 d1) := by rw [hB]; go_simp
  have ta0_4 : wB.cell? ⟨w1.heap.size, 4, none⟩ = some (.int .i64 l1) := by rw [hB]; go_simp
  have ta1_0 : wB.cell? ⟨w1.heap.size + 1, 0, none⟩ = some (.int .i64 aa) := by rw [hB]; go_simp
  have ta1_1 : wB.cell? ⟨w1.heap.size + 1, 1, none⟩ = some (.int .i64 bb) := by rw [hB]; go_simp
  have ta1_2 : wB.cell? ⟨w1.heap.size + 1, 2, none⟩ = some (.int .i64 cc) := by rw [hB]; go_simp
  have ta1_3 : wB.cell? ⟨w1.heap.size + 1, 3, none⟩ = some (.int .i64 dd) := by rw [hB]; go_simp
  have ta1_4 : wB.cell? ⟨w1.heap.size + 1, 4, none⟩ = some (.int .i64 ll) := by rw [hB]; go_simp
  have rc0_0 : wB.cell? ⟨w.heap.size, 0, none⟩ = some (.int .i64 0) := by rw [hB]; go_simp
  have rd0_0 : wB.frozen? ⟨w.heap.size, 0, none⟩ = false := by rw [hB]; go_simp
  have rc0_1 : wB.cell? ⟨w.heap.size, 1, none⟩ = some (.int .i64 0) := by rw [hB]; go_simp
  have rd0_1 : wB.frozen? ⟨w.heap.size, 1, none⟩ = false := by rw [hB]; go_simp
  have rc0_2 : wB.cell? ⟨w.heap.size, 2, none⟩ = some (.int .i64 0) := by rw [hB]; go_simp
  have rd0_2 : wB.frozen? ⟨w.heap.size, 2, none⟩ = false := by rw [hB]; go_simp
  have rc0_3 : wB.cell? ⟨w.heap.size, 3, none⟩ = some (.int .i64 0) := by rw [hB]; go_simp
  have rd0_3 : wB.frozen? ⟨w.heap.size, 3, none⟩ = false := by rw [hB]; go_simp
  have rc0_4 : wB.cell? ⟨w.heap.size, 4, none⟩ = some (.int .i64 0) := by rw [hB]; go_simp
  have rd0_4 : wB.frozen? ⟨w.heap.size, 4, none⟩ = false := by rw [hB]; go_simp
  have rc0_5 : wB.cell? ⟨w.heap.size, 5, none⟩ = some (.bool false) := by rw [hB]; go_simp
  have rd0_5 : wB.frozen? ⟨w.heap.size, 5, none⟩ = false := by rw [hB]; go_simp
  have rc1_0 : wB.cell? ⟨w.heap.size + 1, 0, none⟩ = some (.int .i64 0) := by rw [hB]; go_simp
  have rd1_0 : wB.frozen? ⟨w.heap.size + 1, 0, none⟩ = false := by rw [hB]; go_simp
  have rc1_1 : wB.cell? ⟨w.heap.size + 1, 1, none⟩ = some (.int .i64 0) := by rw [hB]; go_simp
  have rd1_1 : wB.frozen? ⟨w.heap.size + 1, 1, none⟩ = false := by rw [hB]; go_simp
  have rc1_2 : wB.cell? ⟨w.heap.size + 1, 2, none⟩ = some (.int .i64 0) := by rw [hB]; go_simp
  have rd1_2 : wB.frozen? ⟨w.heap.size + 1, 2, none⟩ = false := by rw [hB]; go_simp
  have rc1_3 : wB.cell? ⟨w.heap.size + 1, 3, none⟩ = some (.int .i64 0) := by rw [hB]; go_simp
  have rd1_3 : wB.frozen? ⟨w.heap.size + 1, 3, none⟩ = false := by rw [hB]; go_simp
  have rc1_4 : wB.cell? ⟨w.heap.size + 1, 4, none⟩ = some (.int .i64 0) := by rw [hB]; go_simp
  have rd1_4 : wB.frozen? ⟨w.heap.size + 1, 4, none⟩ = false := by rw [hB]; go_simp
  have rc1_5 : wB.cell? ⟨w.heap.size + 1, 5, none⟩ = some (.bool false) := by rw [hB]; go_simp
  have rd1_5 : wB.frozen? ⟨w.heap.size + 1, 5, none⟩ = false := by rw [hB]; go_simp
  rw [← hB]
  clear hB ra0_0 rb0_0 ra0_1 rb0_1 ra0_2 rb0_2 ra0_3 rb0_3 ra0_4 rb0_4 ra0_5 rb0_5 ra1_0 rb1_0 ra1_1 rb1_1 ra1_2 rb1_2 ra1_3 rb1_3 ra1_4 rb1_4 ra1_5 rb1_5
  have zb0 : w.heap.size < wB.heap.size := by omega
  have zb1 : w.heap.size + 1 < wB.heap.size := by omega
  have zt0 : w1.heap.size < wB.heap.size := by omega
  have zt1 : w1.heap.size + 1 < wB.heap.size := by omega
  have ngq : ¬ w1.heap.size + 1 = g := by omega
  have ngq2 : ¬ g = w1.heap.size + 1 := by omega
  clear szB hg1 G1 hs1
  have HwE : World.grownBy w wB (some g) := (by repeat (first | with_reducible exact World.grownBy.refl _ _ | with_reducible assumption | with_reducible refine gr_alloc ?_ _ | with_reducible refine gr_drew ?_ | with_reducible refine gr_drewN ?_ _ | with_reducible refine gr_new ?_ (by first | exact Nat.le_refl _ | (dsimp only; omega) | (simp; omega)) | with_reducible refine gr_step ?_ (by assumption)))
  have HcE0 : World.cell? wB ⟨w1.heap.size, 0, none⟩ = some (.int .i64 a1) := (by go_simp)
  have HcE1 : World.cell? wB ⟨w1.heap.size, 1, none⟩ = some (.int .i64 b1) := (by go_simp)
  have HcE2 : World.cell? wB ⟨w1.heap.size, 2, none⟩ = some (.int .i64 c1) := (by go_simp)
  have HcE3 : World.cell? wB ⟨w1.heap.size, 3, none⟩ = some (.int .i64 d1) := (by go_simp)
  have HcE4 : World.cell? wB ⟨w1.heap.size, 4, none⟩ = some (.int .i64 l1) := (by go_simp)
  have HcE5 : World.cell? wB ⟨w1.heap.size + 1, 0, none⟩ = some (.int .i64 aa) := (by go_simp)
  have HcE6 : World.cell? wB ⟨w1.heap.size + 1, 1, none⟩ = some (.int .i64 bb) := (by go_simp)
  have HcE7 : World.cell? wB ⟨w1.heap.size + 1, 2, none⟩ = some (.int .i64 cc) := (by go_simp)
  have HcE8 : World.cell? wB ⟨w1.heap.size + 1, 3, none⟩ = some (.int .i64 dd) := (by go_simp)
  have HcE9 : World.cell? wB ⟨w1.heap.size + 1, 4, none⟩ = some (.int .i64 ll) := (by go_simp)
  refine wp_region_held_drew (S := fun W => W.cell? ⟨w1.heap.size, 0, none⟩ = some (.int .i64 a1) ∧ W.cell? ⟨w1.heap.size, 1, none⟩ = some (.int .i64 b1) ∧ W.cell? ⟨w1.heap.size, 2, none⟩ = some (.int .i64 c1) ∧ W.cell? ⟨w1.heap.size, 3, none⟩ = some (.int .i64 d1) ∧ W.cell? ⟨w1.heap.size, 4, none⟩ = some (.int .i64 l1) ∧ W.cell? ⟨w1.heap.size + 1, 0, none⟩ = some (.int .i64 aa) ∧ W.cell? ⟨w1.heap.size + 1, 1, none⟩ = some (.int .i64 bb) ∧ W.cell? ⟨w1.heap.size + 1, 2, none⟩ = some (.int .i64 cc) ∧ W.cell? ⟨w1.heap.size + 1, 3, none⟩ = some (.int .i64 dd) ∧ W.cell? ⟨w1.heap.size + 1, 4, none⟩ = some (.int .i64 ll) ∧ World.grownBy w W (some g) ∧ Src W g) (by kernel_rfl) ⟨HcE0, HcE1, HcE2, HcE3, HcE4, HcE5, HcE6, HcE7, HcE8, HcE9, gr_drew HwE, by assumption⟩ (fun hHeld => ?_)
  refine wpAnyH_take (i := 0) (oi := ⟨some 11, _, _, _, _, _⟩) (v := ?_) rfl (by kernel_rfl) (by kernel_rfl) (by kernel_rfl) (fun _ _ _ h => h) (Or.inl ⟨by kernel_rfl, ?_⟩) (by assumption) ?_; rotate_left; focus (intro W0 hSw; (try dsimp only at hSw); go_simp; (try with_reducible rfl)); (try simp only [Act.put, List.setIfInBounds_toArray, List.set_cons_zero, List.set_cons_succ])
  refine wpAnyH_take (i := 1) (oi := ⟨some 12, _, _, _, _, _⟩) (v := ?_) rfl (by kernel_rfl) (by kernel_rfl) (by kernel_rfl) (fun _ _ _ h => h) (Or.inl ⟨by kernel_rfl, ?_⟩) (by assumption) ?_; rotate_left; focus (intro W0 hSw; (try dsimp only at hSw); go_simp; (try with_reducible rfl)); (try simp only [Act.put, List.setIfInBounds_toArray, List.set_cons_zero, List.set_cons_succ])
  refine wpAnyH_take (i := 5) (oi := ⟨some 16, _, _, _, _, _⟩) (v := ?_) rfl (by kernel_rfl) (by kernel_rfl) (by kernel_rfl) (fun _ _ _ h => h) (Or.inl ⟨by kernel_rfl, ?_⟩) (by assumption) ?_; rotate_left; focus (intro W0 hSw; (try dsimp only at hSw); go_simp; (try with_reducible rfl)); (try simp only [Act.put, List.setIfInBounds_toArray, List.set_cons_zero, List.set_cons_succ])
  refine wpAnyH_take (i := 6) (oi := ⟨some 17, _, _, _, _, _⟩) (v := ?_) rfl (by kernel_rfl) (by kernel_rfl) (by kernel_rfl) (fun _ _ _ h => h) (Or.inl ⟨by kernel_rfl, ?_⟩) (by assumption) ?_; rotate_left; focus (intro W0 hSw; (try dsimp only at hSw); go_simp; (try with_reducible rfl)); (try simp only [Act.put, List.setIfInBounds_toArray, List.set_cons_zero, List.set_cons_succ])
  refine wpAnyH_inv2 (fuel := 2) [2, 3, 4, 7] [8, 9] [13, 14, 15, 18, 19, 20] (fun u L W => (World.grownBy wB W (some g) ∧ Src W g) ∧ (L 2 → FInt (u 13)) ∧ (L 3 → FBool (u 14)) ∧ (L 4 → FBt a1 b1 c1 d1 l1 (u 15)) ∧ (L 7 → FInt (u 18)) ∧ (L 8 → FBool (u 19)) ∧ (L 9 → FBt aa bb cc dd ll (u 20)) ∧ True) (by decide) (by kernel_rfl) (by kernel_rfl) (fun _ _ _ _ _ h => h) (fun u L W hJ => ⟨cell_grown hJ.1.1 (by omega) HcE0, cell_grown hJ.1.1 (by omega) HcE1, cell_grown hJ.1.1 (by omega) HcE2, cell_grown hJ.1.1 (by omega) HcE3, cell_grown hJ.1.1 (by omega) HcE4, cell_grown hJ.1.1 (by omega) HcE5, cell_grown hJ.1.1 (by omega) HcE6, cell_grown hJ.1.1 (by omega) HcE7, cell_grown hJ.1.1 (by omega) HcE8, cell_grown hJ.1.1 (by omega) HcE9, HwE.trans hJ.1.1, hJ.1.2⟩) (fun u L hL => ⟨⟨gr_drew (World.grownBy.refl _ _), by assumption⟩, fun k => absurd k (hL 2 (by decide)), fun k => absurd k (hL 3 (by decide)), fun k => absurd k (hL 4 (by decide)), fun k => absurd k (hL 7 (by decide)), fun k => absurd k (hL 8 (by decide)), fun k => absurd k (hL 9 (by decide)), trivial⟩) ?_ ?_ ?_
  · refine StepsH.cons (d := 13) (o := ⟨some 13, _, _, _, _, _⟩) rfl rfl (by kernel_rfl) ?_ ?_
    rotate_left
    refine StepsH.cons (d := 14) (o := ⟨some 14, _, _, _, _, _⟩) rfl rfl (by kernel_rfl) ?_ ?_
    rotate_left
    refine StepsH.cons (d := 15) (o := ⟨some 15, _, _, _, _, _⟩) rfl rfl (by kernel_rfl) ?_ ?_
    rotate_left
    refine StepsH.cons (d := 18) (o := ⟨some 18, _, _, _, _, _⟩) rfl rfl (by kernel_rfl) ?_ ?_
    rotate_left
    exact StepsH.nil
    · intro u L W hn hd hJ
      obtain ⟨hk, f13, f14, f15, f18, f19, f20, _⟩ := hJ
      have hnd := hk.2
      intro K hK
      simp only [puts, Act.put, List.setIfInBounds_toArray, List.set_cons_zero, List.set_cons_succ]
      go_simp; (go_at_call 45; (with_reducible refine (spec_l01Next g 8 _ hnd (by decide)).mono ?_); rintro e w9 ⟨⟨xx, rfl, hxx⟩, hg, hs⟩)
      all_goals (try go_wp2_with fail)
      all_goals
        apply Shut.go3 (W := W) (g := g) hK
        · simp only [puts, Act.put, List.setIfInBounds_toArray, List.set_cons_zero, List.set_cons_succ]; rfl
        · first | with_reducible assumption | with_reducible exact World.grownBy.refl _ _ | exact World.grownBy_alloc _ _ _
        · first | with_reducible assumption | exact Src.alloc hnd _
        · intro hg hs; exact ⟨Dr.step hk hg hs, fun _ => by rw [upd_same]; exact ⟨_, rfl⟩, fun k => by rw [upd_ne u _ (by decide)]; exact (f14 (k.resolve_left (by decide))), fun k => by rw [upd_ne u _ (by decide)]; exact (f15 (k.resolve_left (by decide))), fun k => by rw [upd_ne u _ (by decide)]; exact (f18 (k.resolve_left (by decide))), fun k => by rw [upd_ne u _ (by decide)]; exact (f19 (k.resolve_left (by decide))), fun k => by rw [upd_ne u _ (by decide)]; exact (f20 (k.resolve_left (by decide))), trivial⟩
    · intro u L W hn hd hJ
      obtain ⟨hk, f13, f14, f15, f18, f19, f20, _⟩ := hJ
      have hnd := hk.2
      obtain ⟨x13, e13⟩ := f13 (hd 2 (by kernel_rfl))
      intro K hK
      simp only [puts, Act.put, List.setIfInBounds_toArray, List.set_cons_zero, List.set_cons_succ, e13]
      go_simp
      all_goals (try go_wp2_with fail)
      all_goals
        apply Shut.go3 (W := W) (g := g) hK
        · simp only [puts, Act.put, List.setIfInBounds_toArray, List.set_cons_zero, List.set_cons_succ, e13]; rfl
        · first | with_reducible assumption | with_reducible exact World.grownBy.refl _ _ | exact World.grownBy_alloc _ _ _
        · first | with_reducible assumption | exact Src.alloc hnd _
        · intro hg hs; exact ⟨Dr.step hk hg hs, fun k => by rw [upd_ne u _ (by decide)]; exact (f13 (k.resolve_left (by decide))), fun _ => by rw [upd_same]; exact ⟨_, rfl⟩, fun k => by rw [upd_ne u _ (by decide)]; exact (f15 (k.resolve_left (by decide))), fun k => by rw [upd_ne u _ (by decide)]; exact (f18 (k.resolve_left (by decide))), fun k => by rw [upd_ne u _ (by decide)]; exact (f19 (k.resolve_left (by decide))), fun k => by rw [upd_ne u _ (by decide)]; exact (f20 (k.resolve_left (by decide))), trivial⟩
    · intro u L W hn hd hJ
      obtain ⟨hk, f13, f14, f15, f18, f19, f20, _⟩ := hJ
      have hnd := hk.2
      obtain ⟨x14, e14⟩ := f14 (hd 3 (by kernel_rfl))
      intro K hK
      simp only [puts, Act.put, List.setIfInBounds_toArray, List.set_cons_zero, List.set_cons_succ, e14]
      go_simp
      all_goals (try go_wp2_with fail)
      all_goals
        apply Shut.go3 (W := W) (g := g) hK
        · simp only [puts, Act.put, List.setIfInBounds_toArray, List.set_cons_zero, List.set_cons_succ, e14]; rfl
        · first | with_reducible assumption | with_reducible exact World.grownBy.refl _ _ | exact World.grownBy_alloc _ _ _
        · first | with_reducible assumption | exact Src.alloc hnd _
        · intro hg hs; exact ⟨Dr.step hk hg hs, fun k => by rw [upd_ne u _ (by decide)]; exact (f13 (k.resolve_left (by decide))), fun k => by rw [upd_ne u _ (by decide)]; exact (f14 (k.resolve_left (by decide))), fun _ => by rw [upd_same]; exact ⟨_, rfl⟩, fun k => by rw [upd_ne u _ (by decide)]; exact (f18 (k.resolve_left (by decide))), fun k => by rw [upd_ne u _ (by decide)]; exact (f19 (k.resolve_left (by decide))), fun k => by rw [upd_ne u _ (by decide)]; exact (f20 (k.resolve_left (by decide))), trivial⟩
    · intro u L W hn hd hJ
      obtain ⟨hk, f13, f14, f15, f18, f19, f20, _⟩ := hJ
      have hnd := hk.2
      intro K hK
      simp only [puts, Act.put, List.setIfInBounds_toArray, List.set_cons_zero, List.set_cons_succ]
      go_simp; (go_at_call 45; (with_reducible refine (spec_l01Next g 8 _ hnd (by decide)).mono ?_); rintro e w9 ⟨⟨xx, rfl, hxx⟩, hg, hs⟩)
      all_goals (try go_wp2_with fail)
      all_goals
        apply Shut.go3 (W := W) (g := g) hK
        · simp only [puts, Act.put, List.setIfInBounds_toArray, List.set_cons_zero, List.set_cons_succ]; rfl
        · first | with_reducible assumption | with_reducible exact World.grownBy.refl _ _ | exact World.grownBy_alloc _ _ _
        · first | with_reducible assumption | exact Src.alloc hnd _
        · intro hg hs; exact ⟨Dr.step hk hg hs, fun k => by rw [upd_ne u _ (by decide)]; exact (f13 (k.resolve_left (by decide))), fun k => by rw [upd_ne u _ (by decide)]; exact (f14 (k.resolve_left (by decide))), fun k => by rw [upd_ne u _ (by decide)]; exact (f15 (k.resolve_left (by decide))), fun _ => by rw [upd_same]; exact ⟨_, rfl⟩, fun k => by rw [upd_ne u _ (by decide)]; exact (f19 (k.resolve_left (by decide))), fun k => by rw [upd_ne u _ (by decide)]; exact (f20 (k.resolve_left (by decide))), trivial⟩
  · refine PuresH.cons (d := 19) (o := ⟨some 19, _, _, _, _, _⟩) rfl rfl (by kernel_rfl) (by kernel_rfl) ?_ ?_
    rotate_left
    refine PuresH.cons (d := 20) (o := ⟨some 20, _, _, _, _, _⟩) rfl rfl (by kernel_rfl) (by kernel_rfl) ?_ ?_
    rotate_left
    exact PuresH.nil
    · intro u L W hn hd hJ
      obtain ⟨hk, f13, f14, f15, f18, f19, f20, _⟩ := hJ
      have hnd := hk.2
      obtain ⟨x18, e18⟩ := f18 (hd 7 (by kernel_rfl))
      simp only [puts, Act.put, List.setIfInBounds_toArray, List.set_cons_zero, List.set_cons_succ, e18]
      refine ⟨?_, Or.inl ⟨by kernel_rfl, ?_⟩, ?_⟩; rotate_left; focus (intro W0 hSw; (try dsimp only at hSw); go_simp; (try with_reducible rfl))
      exact ⟨hk, fun k => by rw [upd_ne u _ (by decide)]; exact (f13 (k.resolve_left (by decide))), fun k => by rw [upd_ne u _ (by decide)]; exact (f14 (k.resolve_left (by decide))), fun k => by rw [upd_ne u _ (by decide)]; exact (f15 (k.resolve_left (by decide))), fun k => by rw [upd_ne u _ (by decide)]; exact (f18 (k.resolve_left (by decide))), fun _ => by rw [upd_same]; exact ⟨_, rfl⟩, fun k => by rw [upd_ne u _ (by decide)]; exact (f20 (k.resolve_left (by decide))), trivial⟩
    · intro u L W hn hd hJ
      obtain ⟨hk, f13, f14, f15, f18, f19, f20, _⟩ := hJ
      have hnd := hk.2
      obtain ⟨x19, e19⟩ := f19 (hd 8 (by kernel_rfl))
      simp only [puts, Act.put, List.setIfInBounds_toArray, List.set_cons_zero, List.set_cons_succ, e19]
      refine ⟨?_, Or.inl ⟨by kernel_rfl, ?_⟩, ?_⟩; rotate_left; focus (intro W0 hSw; (try dsimp only at hSw); go_simp; (try with_reducible rfl))
      exact ⟨hk, fun k => by rw [upd_ne u _ (by decide)]; exact (f13 (k.resolve_left (by decide))), fun k => by rw [upd_ne u _ (by decide)]; exact (f14 (k.resolve_left (by decide))), fun k => by rw [upd_ne u _ (by decide)]; exact (f15 (k.resolve_left (by decide))), fun k => by rw [upd_ne u _ (by decide)]; exact (f18 (k.resolve_left (by decide))), fun k => by rw [upd_ne u _ (by decide)]; exact (f19 (k.resolve_left (by decide))), fun _ => by rw [upd_same]; exact ⟨_, rfl⟩, trivial⟩
  · intro u L W hJ hL
    obtain ⟨hk, f13, f14, f15, f18, f19, f20, _⟩ := hJ
    obtain ⟨x13, e13⟩ := f13 (hL 2 (by kernel_rfl))
    obtain ⟨x14, e14⟩ := f14 (hL 3 (by kernel_rfl))
    obtain ⟨x15, e15⟩ := f15 (hL 4 (by kernel_rfl))
    obtain ⟨x18, e18⟩ := f18 (hL 7 (by kernel_rfl))
    obtain ⟨x19, e19⟩ := f19 (hL 8 (by kernel_rfl))
    obtain ⟨x20, e20⟩ := f20 (hL 9 (by kernel_rfl))
    clear hHeld; have hcW := gcell hk.1; have hfW := gfroz hk.1; have hHeld := And.intro (HwE.trans hk.1) hk.2; have lW := hk.1.size
    clear f13
    clear f14
    clear f15
    clear f18
    clear f19
    clear f20
    simp only [puts, Act.put, List.setIfInBounds_toArray, List.set_cons_zero, List.set_cons_succ, setAll, Array.replicate, e13, e14, e15, e18, e19, e20]
    refine wpAnyH_ready (rs := [10]) (by kernel_rfl) (by simp) ?_; refine (AllReadyH.cons (o := ⟨none, _, _, _, _, _⟩) rfl (fun K hK => ?_) AllReadyH.nil)
    go_simp
    all_goals (try go_wp2_with fail)
    refine hK.out _ _ ?_ (fun hH2 => ?_)
    · have hHg := hHeld.1; have hHs := hHeld.2; exact ⟨(by go_simp; done), (by go_simp; done), (by go_simp; done), (by go_simp; done), (by go_simp; done), (by go_simp; done), (by go_simp; done), (by go_simp; done), (by go_simp; done), (by go_simp; done), (by repeat (first | with_reducible exact World.grownBy.refl _ _ | with_reducible assumption | with_reducible refine gr_alloc ?_ _ | with_reducible refine gr_drew ?_ | with_reducible refine gr_drewN ?_ _ | with_reducible refine gr_new ?_ (by first | exact Nat.le_refl _ | (dsimp only; omega) | (simp; omega)) | with_reducible refine gr_step ?_ (by assumption))), (by repeat (first | with_reducible assumption | with_reducible refine Src.alloc ?_ _ | with_reducible refine Src.drewN ?_ _ | with_reducible refine Src.drew ?_ | with_reducible refine Src.set (by first | (dsimp only; omega) | (simp; omega)) ?_))⟩
    clear hK K hHeld; (have hHeld := hH2.2.2.2.2.2.2.2.2.2.2); clear hH2; (try simp only [Act.put])
    refine wpAnyH_ready (rs := [11]) (by kernel_rfl) (by simp) ?_; refine (AllReadyH.cons (o := ⟨none, _, _, _, _, _⟩) rfl (fun K hK => ?_) AllReadyH.nil)
    go_simp
    all_goals (try go_wp2_with fail)
    refine hK.out _ _ ?_ (fun hH2 => ?_)
    · have hHg := hHeld.1; have hHs := hHeld.2; exact ⟨(by go_simp; done), (by go_simp; done), (by go_simp; done), (by go_simp; done), (by go_simp; done), (by go_simp; done), (by go_simp; done), (by go_simp; done), (by go_simp; done), (by go_simp; done), (by repeat (first | with_reducible exact World.grownBy.refl _ _ | with_reducible assumption | with_reducible refine gr_alloc ?_ _ | with_reducible refine gr_drew ?_ | with_reducible refine gr_drewN ?_ _ | with_reducible refine gr_new ?_ (by first | exact Nat.le_refl _ | (dsimp only; omega) | (simp; omega)) | with_reducible refine gr_step ?_ (by assumption))), (by repeat (first | with_reducible assumption | with_reducible refine Src.alloc ?_ _ | with_reducible refine Src.drewN ?_ _ | with_reducible refine Src.drew ?_ | with_reducible refine Src.set (by first | (dsimp only; omega) | (simp; omega)) ?_))⟩
    clear hK K hHeld; (have hHeld := hH2.2.2.2.2.2.2.2.2.2.2); clear hH2; (try simp only [Act.put])
    refine wpAnyH_done (by kernel_rfl) ?_ _; (try simp only [Act.put, List.setIfInBounds_toArray, List.set_cons_zero, List.set_cons_succ])
    obtain ⟨hgE, hsE⟩ := hHeld
    go_wp2
    simp [bodyPost, results, Try.results53, go_sem, *]
    first | exact ⟨⟨_, _, _, _, _, _, _, _, _, _, _, _, rfl⟩, (by repeat (first | with_reducible exact World.grownBy.refl _ _ | with_reducible assumption | with_reducible refine gr_alloc ?_ _ | with_reducible refine gr_drew ?_ | with_reducible refine gr_drewN ?_ _ | with_reducible refine gr_new ?_ (by first | exact Nat.le_refl _ | (dsimp only; omega) | (simp; omega)) | with_reducible refine gr_step ?_ (by assumption))), (by repeat (first | with_reducible assumption | with_reducible refine Src.alloc ?_ _ | with_reducible refine Src.drewN ?_ _ | with_reducible refine Src.drew ?_ | with_reducible refine Src.set (by first | (dsimp only; omega) | (simp; omega)) ?_))⟩ | exact ⟨(by repeat (first | with_reducible exact World.grownBy.refl _ _ | with_reducible assumption | with_reducible refine gr_alloc ?_ _ | with_reducible refine gr_drew ?_ | with_reducible refine gr_drewN ?_ _ | with_reducible refine gr_new ?_ (by first | exact Nat.le_refl _ | (dsimp only; omega) | (simp; omega)) | with_reducible refine gr_step ?_ (by assumption))), (by repeat (first | with_reducible assumption | with_reducible refine Src.alloc ?_ _ | with_reducible refine Src.drewN ?_ _ | with_reducible refine Src.drew ?_ | with_reducible refine Src.set (by first | (dsimp only; omega) | (simp; omega)) ?_))⟩
def RuD (e : Ending) : Prop := ∃ (wx wy a b c d l : Int) (t : Bool) (a' b' c' d' l' : Int) (t' : Bool), e = .returned (.tuple #[.agg #[.int .i64 wx, .int .i64 wy], .agg #[.int .i64 a, .int .i64 b, .int .i64 c, .int .i64 d, .int .i64 l, .bool t], .agg #[.int .i64 a', .int .i64 b', .int .i64 c', .int .i64 d', .int .i64 l', .bool t']])
end Go.Proofs.Ytnmnibpcklcmgaa
