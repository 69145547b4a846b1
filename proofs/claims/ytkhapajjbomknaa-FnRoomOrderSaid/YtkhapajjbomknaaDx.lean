/- Walks: a mark and two hulls near to it are drawn. -/
import Derived.Test.YtkhapajjbomknaaDw
namespace Go.Proofs.Ytkhapajjbomknaa
open Go.RowKit

/-- What a draw of a mark and two hulls returns. -/
def MkD (w : World) (g : Nat) (e : Ending) (w' : World) : Prop :=
  (∃ (nm : ByteArray) (mx my sd zn a b c d l a' b' c' d' l' : Int), e = .returned (.tuple #[.agg #[.string nm, .int .i64 mx, .int .i64 my, .int .i64 sd, .int .i64 zn], .agg #[.int .i64 a, .int .i64 b, .int .i64 c, .int .i64 d, .int .i64 l], .agg #[.int .i64 a', .int .i64 b', .int .i64 c', .int .i64 d', .int .i64 l']])) ∧ w.grownBy w' (some g) ∧ Src w' g
set_option maxRecDepth 100000 in
set_option maxHeartbeats 16000000 in
theorem spec_l11DrawHulls (g : Nat) (w : World) (h : Src w g) : Calls Try.prog 57 #[.pointer (some ⟨g, 0, none⟩)] w (MkD w g) := by
  have ng := Src.lt h
  have nz0 : ¬ w.heap.size = g := by omega
  have ny0 : ¬ g = w.heap.size := by omega
  have nz1 : ¬ w.heap.size + 1 = g := by omega
  have ny1 : ¬ g = w.heap.size + 1 := by omega
  have nz2 : ¬ w.heap.size + 1 + 1 = g := by omega
  have ny2 : ¬ g = w.heap.size + 1 + 1 := by omega
  go_enter Try.func57, Try.ntmps57
  go_wp2_with fail; (with_reducible refine (spec_l09DrawTwo g _ (by repeat (first | with_reducible assumption | with_reducible refine Src.alloc ?_ _ | with_reducible refine Src.drewN ?_ _ | with_reducible refine Src.drew ?_ | with_reducible refine Src.set (by first | (dsimp only; omega) | (simp; omega)) ?_))).mono ?_); rintro e w1 ⟨⟨a, b, c, d, l, a', b', c', d', l', rfl⟩, hg1, hs1⟩; have hc1 := gcell hg1; have hf1 := gfroz hg1; have lg1 := Src.lt hs1; have nga1 : ¬ w1.heap.size = g := (by omega); have ngb1 : ¬ g = w1.heap.size := (by omega); have hzs1 := hg1.size; (try simp at hzs1); have zx1_0 : w.heap.size < w1.heap.size := (by first | omega | (simp at hzs1; omega)); have zy1_0 : w.heap.size < w1.heap.size + 1 := (by omega); have zw1_0 : ¬ w1.heap.size = w.heap.size := (by omega); have zv1_0 : ¬ w.heap.size = w1.heap.size := (by omega); have zu1_0 : w.heap.size < w1.heap.size + 1 + 1 := (by omega); have zt1_0 : ¬ w1.heap.size + 1 = w.heap.size := (by omega); have zr1_0 : ¬ w.heap.size = w1.heap.size + 1 := (by omega); have zx1_1 : w.heap.size + 1 < w1.heap.size := (by first | omega | (simp at hzs1; omega)); have zy1_1 : w.heap.size + 1 < w1.heap.size + 1 := (by omega); have zw1_1 : ¬ w1.heap.size = w.heap.size + 1 := (by omega); have zv1_1 : ¬ w.heap.size + 1 = w1.heap.size := (by omega); have zu1_1 : w.heap.size + 1 < w1.heap.size + 1 + 1 := (by omega); have zt1_1 : ¬ w1.heap.size + 1 = w.heap.size + 1 := (by omega); have zr1_1 : ¬ w.heap.size + 1 = w1.heap.size + 1 := (by omega); have zx1_2 : w.heap.size + 1 + 1 < w1.heap.size := (by first | omega | (simp at hzs1; omega)); have zy1_2 : w.heap.size + 1 + 1 < w1.heap.size + 1 := (by omega); have zw1_2 : ¬ w1.heap.size = w.heap.size + 1 + 1 := (by omega); have zv1_2 : ¬ w.heap.size + 1 + 1 = w1.heap.size := (by omega); have zu1_2 : w.heap.size + 1 + 1 < w1.heap.size + 1 + 1 := (by omega); have zt1_2 : ¬ w1.heap.size + 1 = w.heap.size + 1 + 1 := (by omega); have zr1_2 : ¬ w.heap.size + 1 + 1 = w1.heap.size + 1 := (by omega)
  have ra0_0 : w1.cell? ⟨w.heap.size, 0, none⟩ = some (.string ByteArray.empty) := by rw [hc1 _ _ (by first | (simp; done) | (simp; omega)) nz0]; (first | (go_simp; done) | (go_simp; rfl) | rfl)
  have rb0_0 : w1.frozen? ⟨w.heap.size, 0, none⟩ = false := by rw [hf1 _ _ (by first | (simp; done) | (simp; omega)) nz0]; go_simp
  have ra0_1 : w1.cell? ⟨w.heap.size, 1, none⟩ = some (.int .i64 0) := by rw [hc1 _ _ (by first | (simp; done) | (simp; omega)) nz0]; (first | (go_simp; done) | (go_simp; rfl) | rfl)
  have rb0_1 : w1.frozen? ⟨w.heap.size, 1, none⟩ = false := by rw [hf1 _ _ (by first | (simp; done) | (simp; omega)) nz0]; go_simp
  have ra0_2 : w1.cell? ⟨w.heap.size, 2, none⟩ = some (.int .i64 0) := by rw [hc1 _ _ (by first | (simp; done) | (simp; omega)) nz0]; (first | (go_simp; done) | (go_simp; rfl) | rfl)
  have rb0_2 : w1.frozen? ⟨w.heap.size, 2, none⟩ = false := by rw [hf1 _ _ (by first | (simp; done) | (simp; omega)) nz0]; go_simp
  have ra0_3 : w1.cell? ⟨w.heap.size, 3, none⟩ = some (.int .i64 0) := by rw [hc1 _ _ (by first | (simp; done) | (simp; omega)) nz0]; (first | (go_simp; done) | (go_simp; rfl) | rfl)
  have rb0_3 : w1.frozen? ⟨w.heap.size, 3, none⟩ = false := by rw [hf1 _ _ (by first | (simp; done) | (simp; omega)) nz0]; go_simp
  have ra0_4 : w1.cell? ⟨w.heap.size, 4, none⟩ = some (.int .i64 0) := by rw [hc1 _ _ (by first | (simp; done) | (simp; omega)) nz0]; (first | (go_simp; done) | (go_simp; rfl) | rfl)
  have rb0_4 : w1.frozen? ⟨w.heap.size, 4, none⟩ = false := by rw [hf1 _ _ (by first | (simp; done) | (simp; omega)) nz0]; go_simp
  have ra1_0 : w1.cell? ⟨w.heap.size + 1, 0, none⟩ = some (.int .i64 0) := by rw [hc1 _ _ (by first | (simp; done) | (simp; omega)) nz1]; (first | (go_simp; done) | (go_simp; rfl) | rfl)
  have rb1_0 : w1.frozen? ⟨w.heap.size + 1, 0, none⟩ = false := by rw [hf1 _ _ (by first | (simp; done) | (simp; omega)) nz1]; go_simp
  have ra1_1 : w1.cell? ⟨w.heap.size + 1, 1, none⟩ = some (.int .i64 0) := by rw [hc1 _ _ (by first | (simp; done) | (simp; omega)) nz1]; (first | (go_simp; done) | (go_simp; rfl) | rfl)
  have rb1_1 : w1.frozen? ⟨w.heap.size + 1, 1, none⟩ = false := by rw [hf1 _ _ (by first | (simp; done) | (simp; omega)) nz1]; go_simp
  have ra1_2 : w1.cell? ⟨w.heap.size + 1, 2, none⟩ = some (.int .i64 0) := by rw [hc1 _ _ (by first | (simp; done) | (simp; omega)) nz1]; (first | (go_simp; done) | (go_simp; rfl) | rfl)
  have rb1_2 : w1.frozen? ⟨w.heap.size + 1, 2, none⟩ = false := by rw [hf1 _ _ (by first | (simp; done) | (simp; omega)) nz1]; go_simp
  have ra1_3 : w1.cell? ⟨w.heap.size + 1, 3, none⟩ = some (.int .i64 0) := by rw [hc1 _ _ (by first | (simp; done) | (simp; omega)) nz1]; (first | (go_simp; done) | (go_simp; rfl) | rfl)
  have rb1_3 : w1.frozen? ⟨w.heap.size + 1, 3, none⟩ = false := by rw [hf1 _ _ (by first | (simp; done) | (simp; omega)) nz1]; go_simp
  have ra1_4 : w1.cell? ⟨w.heap.size + 1, 4, none⟩ = some (.int .i64 0) := by rw [hc1 _ _ (by first | (simp; done) | (simp; omega)) nz1]; (first | (go_simp; done) | (go_simp; rfl) | rfl)
  have rb1_4 : w1.frozen? ⟨w.heap.size + 1, 4, none⟩ = false := by rw [hf1 _ _ (by first | (simp; done) | (simp; omega)) nz1]; go_simp
  have ra2_0 : w1.cell? ⟨w.heap.size + 1 + 1, 0, none⟩ = some (.int .i64 0) := by rw [hc1 _ _ (by first | (simp; done) | (simp; omega)) nz2]; (first | (go_simp; done) | (go_simp; rfl) | rfl)
  have rb2_0 : w1.frozen? ⟨w.heap.size + 1 + 1, 0, none⟩ = false := by rw [hf1 _ _ (by first | (simp; done) | (simp; omega)) nz2]; go_simp
  have ra2_1 : w1.cell? ⟨w.heap.size + 1 + 1, 1, none⟩ = some (.int .i64 0) := by rw [hc1 _ _ (by first | (simp; done) | (simp; omega)) nz2]; (first | (go_simp; done) | (go_simp; rfl) | rfl)
  have rb2_1 : w1.frozen? ⟨w.heap.size + 1 + 1, 1, none⟩ = false := by rw [hf1 _ _ (by first | (simp; done) | (simp; omega)) nz2]; go_simp
  have ra2_2 : w1.cell? ⟨w.heap.size + 1 + 1, 2, none⟩ = some (.int .i64 0) := by rw [hc1 _ _ (by first | (simp; done) | (simp; omega)) nz2]; (first | (go_simp; done) | (go_simp; rfl) | rfl)
  have rb2_2 : w1.frozen? ⟨w.heap.size + 1 + 1, 2, none⟩ = false := by rw [hf1 _ _ (by first | (simp; done) | (simp; omega)) nz2]; go_simp
  have ra2_3 : w1.cell? ⟨w.heap.size + 1 + 1, 3, none⟩ = some (.int .i64 0) := by rw [hc1 _ _ (by first | (simp; done) | (simp; omega)) nz2]; (first | (go_simp; done) | (go_simp; rfl) | rfl)
  have rb2_3 : w1.frozen? ⟨w.heap.size + 1 + 1, 3, none⟩ = false := by rw [hf1 _ _ (by first | (simp; done) | (simp; omega)) nz2]; go_simp
  have ra2_4 : w1.cell? ⟨w.heap.size + 1 + 1, 4, none⟩ = some (.int .i64 0) := by rw [hc1 _ _ (by first | (simp; done) | (simp; omega)) nz2]; (first | (go_simp; done) | (go_simp; rfl) | rfl)
  have rb2_4 : w1.frozen? ⟨w.heap.size + 1 + 1, 4, none⟩ = false := by rw [hf1 _ _ (by first | (simp; done) | (simp; omega)) nz2]; go_simp
  have G1 := hide (show w.grownBy w1 (some g) from (by repeat (first | with_reducible exact World.grownBy.refl _ _ | with_reducible assumption | with_reducible refine gr_alloc ?_ _ | with_reducible refine gr_drew ?_ | with_reducible refine gr_drewN ?_ _ | with_reducible refine gr_new ?_ (by first | exact Nat.le_refl _ | (dsimp only; omega) | (simp; omega)) | with_reducible refine gr_step ?_ (by assumption))))
  clear hc1 hf1 hg1
  have hg1 := G1.out
  go_upto_region 2 with fail
  obtain ⟨wB, hB⟩ : ∃ W, W = (w1.alloc (.cells #[.int .i64 a, .int .i64 b, .int .i64 c, .int .i64 d, .int .i64 l] 32)).alloc (.cells #[.int .i64 a', .int .i64 b', .int .i64 c', .int .i64 d', .int .i64 l'] 32) := ⟨_, rfl⟩
  have gB : w.grownBy wB (some g) := by rw [hB]; exact (by repeat (first | with_reducible exact World.grownBy.refl _ _ | with_reducible assumption | with_reducible refine gr_alloc ?_ _ | with_reducible refine gr_drew ?_ | with_reducible refine gr_drewN ?_ _ | with_reducible refine gr_new ?_ (by first | exact Nat.le_refl _ | (dsimp only; omega) | (simp; omega)) | with_reducible refine gr_step ?_ (by assumption)))
  have sB : Src wB g := by rw [hB]; exact (by repeat (first | with_reducible assumption | with_reducible refine Src.alloc ?_ _ | with_reducible refine Src.drewN ?_ _ | with_reducible refine Src.drew ?_ | with_reducible refine Src.set (by first | (dsimp only; omega) | (simp; omega)) ?_))
  have szB : wB.heap.size = w1.heap.size + 1 + 1 := by rw [hB]; simp
  have sa0_0 : wB.cell? ⟨w.heap.size, 0, none⟩ = some (.string ByteArray.empty) := by rw [hB]; exact cell_alloc (cell_alloc ra0_0)
  have sb0_0 : wB.frozen? ⟨w.heap.size, 0, none⟩ = false := by rw [hB]; exact frozen_alloc (cell_alloc ra0_0) (frozen_alloc ra0_0 rb0_0)
  have sa0_1 : wB.cell? ⟨w.heap.size, 1, none⟩ = some (.int .i64 0) := by rw [hB]; exact cell_alloc (cell_alloc ra0_1)
  have sb0_1 : wB.frozen? ⟨w.heap.size, 1, none⟩ = false := by rw [hB]; exact frozen_alloc (cell_alloc ra0_1) (frozen_alloc ra0_1 rb0_1)
  have sa0_2 : wB.cell? ⟨w.heap.size, 2, none⟩ = some (.int .i64 0) := by rw [hB]; exact cell_alloc (cell_alloc ra0_2)
  have sb0_2 : wB.frozen? ⟨w.heap.size, 2, none⟩ = false := by rw [hB]; exact frozen_alloc (cell_alloc ra0_2) (frozen_alloc ra0_2 rb0_2)
  have sa0_3 : wB.cell? ⟨w.heap.size, 3, none⟩ = some (.int .i64 0) := by rw [hB]; exact cell_alloc (cell_alloc ra0_3)
  have sb0_3 : wB.frozen? ⟨w.heap.size, 3, none⟩ = false := by rw [hB]; exact frozen_alloc (cell_alloc ra0_3) (frozen_alloc ra0_3 rb0_3)
  have sa0_4 : wB.cell? ⟨w.heap.size, 4, none⟩ = some (.int .i64 0) := by rw [hB]; exact cell_alloc (cell_alloc ra0_4)
  have sb0_4 : wB.frozen? ⟨w.heap.size, 4, none⟩ = false := by rw [hB]; exact frozen_alloc (cell_alloc ra0_4) (frozen_alloc ra0_4 rb0_4)
  have sa1_0 : wB.cell? ⟨w.heap.size + 1, 0, none⟩ = some (.int .i64 0) := by rw [hB]; exact cell_alloc (cell_alloc ra1_0)
  have sb1_0 : wB.frozen? ⟨w.heap.size + 1, 0, none⟩ = false := by rw [hB]; exact frozen_alloc (cell_alloc ra1_0) (frozen_alloc ra1_0 rb1_0)
  have sa1_1 : wB.cell? ⟨w.heap.size + 1, 1, none⟩ = some (.int .i64 0) := by rw [hB]; exact cell_alloc (cell_alloc ra1_1)
  have sb1_1 : wB.frozen? ⟨w.heap.size + 1, 1, none⟩ = false := by rw [hB]; exact frozen_alloc (cell_alloc ra1_1) (frozen_alloc ra1_1 rb1_1)
  have sa1_2 : wB.cell? ⟨w.heap.size + 1, 2, none⟩ = some (.int .i64 0) := by rw [hB]; exact cell_alloc (cell_alloc ra1_2)
  have sb1_2 : wB.frozen? ⟨w.heap.size + 1, 2, none⟩ = false := by rw [hB]; exact frozen_alloc (cell_alloc ra1_2) (frozen_alloc ra1_2 rb1_2)
  have sa1_3 : wB.cell? ⟨w.heap.size + 1, 3, none⟩ = some (.int .i64 0) := by rw [hB]; exact cell_alloc (cell_alloc ra1_3)
  have sb1_3 : wB.frozen? ⟨w.heap.size + 1, 3, none⟩ = false := by rw [hB]; exact frozen_alloc (cell_alloc ra1_3) (frozen_alloc ra1_3 rb1_3)
  have sa1_4 : wB.cell? ⟨w.heap.size + 1, 4, none⟩ = some (.int .i64 0) := by rw [hB]; exact cell_alloc (cell_alloc ra1_4)
  have sb1_4 : wB.frozen? ⟨w.heap.size + 1, 4, none⟩ = false := by rw [hB]; exact frozen_alloc (cell_alloc ra1_4) (frozen_alloc ra1_4 rb1_4)
  have sa2_0 : wB.cell? ⟨w.heap.size + 1 + 1, 0, none⟩ = some (.int .i64 0) := by rw [hB]; exact cell_alloc (cell_alloc ra2_0)
  have sb2_0 : wB.frozen? ⟨w.heap.size + 1 + 1, 0, none⟩ = false := by rw [hB]; exact frozen_alloc (cell_alloc ra2_0) (frozen_alloc ra2_0 rb2_0)
  have sa2_1 : wB.cell? ⟨w.heap.size + 1 + 1, 1, none⟩ = some (.int .i64 0) := by rw [hB]; exact cell_alloc (cell_alloc ra2_1)
  have sb2_1 : wB.frozen? ⟨w.heap.size + 1 + 1, 1, none⟩ = false := by rw [hB]; exact frozen_alloc (cell_alloc ra2_1) (frozen_alloc ra2_1 rb2_1)
  have sa2_2 : wB.cell? ⟨w.heap.size + 1 + 1, 2, none⟩ = some (.int .i64 0) := by rw [hB]; exact cell_alloc (cell_alloc ra2_2)
  have sb2_2 : wB.frozen? ⟨w.heap.size + 1 + 1, 2, none⟩ = false := by rw [hB]; exact frozen_alloc (cell_alloc ra2_2) (frozen_alloc ra2_2 rb2_2)
  have sa2_3 : wB.cell? ⟨w.heap.size + 1 + 1, 3, none⟩ = some (.int .i64 0) := by rw [hB]; exact cell_alloc (cell_alloc ra2_3)
  have sb2_3 : wB.frozen? ⟨w.heap.size + 1 + 1, 3, none⟩ = false := by rw [hB]; exact frozen_alloc (cell_alloc ra2_3) (frozen_alloc ra2_3 rb2_3)
  have sa2_4 : wB.cell? ⟨w.heap.size + 1 + 1, 4, none⟩ = some (.int .i64 0) := by rw [hB]; exact cell_alloc (cell_alloc ra2_4)
  have sb2_4 : wB.frozen? ⟨w.heap.size + 1 + 1, 4, none⟩ = false := by rw [hB]; exact frozen_alloc (cell_alloc ra2_4) (frozen_alloc ra2_4 rb2_4)
  have ta0_0 : wB.cell? ⟨w1.heap.size, 0, none⟩ = some (.int .i64 a) := by rw [hB]; go_simp
  have ta0_1 : wB.cell? ⟨w1.heap.size, 1, none⟩ = some (.int .i64 b) := by rw [hB]; go_simp
  have ta0_2 : wB.cell? ⟨w1.heap.size, 2, none⟩ = some (.int .i64 c) := by rw [hB]; go_simp
  have ta0_3 : wB.cell? ⟨w1.heap.size, 3, none⟩ = some (.int .i64 d) := by rw [hB]; go_simp
  have ta0_4 : wB.cell? ⟨w1.heap.size, 4, none⟩ = some (.int .i64 l) := by rw [hB]; go_simp
  have ta1_0 : wB.cell? ⟨w1.heap.size + 1, 0, none⟩ = some (.int .i64 a') := by rw [hB]; go_simp
  have ta1_1 : wB.cell? ⟨w1.heap.size + 1, 1, none⟩ = some (.int .i64 b') := by rw [hB]; go_simp
  have ta1_2 : wB.cell? ⟨w1.heap.size + 1, 2, none⟩ = some (.int .i64 c') := by rw [hB]; go_simp
  have ta1_3 : wB.cell? ⟨w1.heap.size + 1, 3, none⟩ = some (.int .i64 d') := by rw [hB]; go_simp
  have ta1_4 : wB.cell? ⟨w1.heap.size + 1, 4, none⟩ = some (.int .i64 l') := by rw [hB]; go_simp
  have tf : wB.frozen? ⟨w1.heap.size + 1, 4, none⟩ = false := by rw [hB]; go_simp
  rw [← hB]
  clear hB ra0_0 rb0_0 ra0_1 rb0_1 ra0_2 rb0_2 ra0_3 rb0_3 ra0_4 rb0_4 ra1_0 rb1_0 ra1_1 rb1_1 ra1_2 rb1_2 ra1_3 rb1_3 ra1_4 rb1_4 ra2_0 rb2_0 ra2_1 rb2_1 ra2_2 rb2_2 ra2_3 rb2_3 ra2_4 rb2_4
  have zb0 : w.heap.size < wB.heap.size := by omega
  have zb1 : w.heap.size + 1 < wB.heap.size := by omega
  have zb2 : w.heap.size + 1 + 1 < wB.heap.size := by omega
  have zt0 : w1.heap.size < wB.heap.size := by omega
  have zt1 : w1.heap.size + 1 < wB.heap.size := by omega
  have ngq : ¬ w1.heap.size + 1 = g := by omega
  have ngq2 : ¬ g = w1.heap.size + 1 := by omega
  clear szB
  have HwE : World.grownBy w wB (some g) := (by repeat (first | with_reducible exact World.grownBy.refl _ _ | with_reducible assumption | with_reducible refine gr_alloc ?_ _ | with_reducible refine gr_drew ?_ | with_reducible refine gr_drewN ?_ _ | with_reducible refine gr_new ?_ (by first | exact Nat.le_refl _ | (dsimp only; omega) | (simp; omega)) | with_reducible refine gr_step ?_ (by assumption)))
  have HcE0 : World.cell? wB ⟨w1.heap.size, 0, none⟩ = some (.int .i64 a) := (by go_simp)
  have HcE1 : World.cell? wB ⟨w1.heap.size, 1, none⟩ = some (.int .i64 b) := (by go_simp)
  refine wp_region_held_drew (S := fun W => W.cell? ⟨w1.heap.size, 0, none⟩ = some (.int .i64 a) ∧ W.cell? ⟨w1.heap.size, 1, none⟩ = some (.int .i64 b) ∧ World.grownBy w W (some g) ∧ Src W g) (by kernel_rfl) ⟨HcE0, HcE1, gr_drew HwE, by assumption⟩ (fun hHeld => ?_)
  refine wpAnyH_take (i := 0) (oi := ⟨some 13, _, _, _, _, _⟩) (v := ?_) rfl (by kernel_rfl) (by kernel_rfl) (by kernel_rfl) (fun _ _ _ h => h) (Or.inl ⟨by kernel_rfl, ?_⟩) (by assumption) ?_; rotate_left; focus (intro W0 hSw; (try dsimp only at hSw); go_simp; (try with_reducible rfl)); (try simp only [Act.put, List.setIfInBounds_toArray, List.set_cons_zero, List.set_cons_succ])
  refine wpAnyH_take (i := 1) (oi := ⟨some 14, _, _, _, _, _⟩) (v := ?_) rfl (by kernel_rfl) (by kernel_rfl) (by kernel_rfl) (fun _ _ _ h => h) (Or.inl ⟨by kernel_rfl, ?_⟩) (by assumption) ?_; rotate_left; focus (intro W0 hSw; (try dsimp only at hSw); go_simp; (try with_reducible rfl)); (try simp only [Act.put, List.setIfInBounds_toArray, List.set_cons_zero, List.set_cons_succ])
  refine wpAnyH_take (i := 2) (oi := ⟨some 15, _, _, _, _, _⟩) (v := ?_) rfl (by kernel_rfl) (by kernel_rfl) (by kernel_rfl) (fun _ _ _ h => h) (Or.inl ⟨by kernel_rfl, ?_⟩) (by assumption) ?_; rotate_left; focus (intro W0 hSw; (try dsimp only at hSw); go_simp; (try with_reducible rfl)); (try simp only [Act.put, List.setIfInBounds_toArray, List.set_cons_zero, List.set_cons_succ])
  refine wpAnyH_take (i := 3) (oi := ⟨some 16, _, _, _, _, _⟩) (v := ?_) rfl (by kernel_rfl) (by kernel_rfl) (by kernel_rfl) (fun _ _ _ h => h) (Or.inl ⟨by kernel_rfl, ?_⟩) (by assumption) ?_; rotate_left; focus (intro W0 hSw; (try dsimp only at hSw); go_simp; (try with_reducible rfl)); (try simp only [Act.put, List.setIfInBounds_toArray, List.set_cons_zero, List.set_cons_succ])
  refine wpAnyH_take (i := 7) (oi := ⟨some 20, _, _, _, _, _⟩) (v := ?_) rfl (by kernel_rfl) (by kernel_rfl) (by kernel_rfl) (fun _ _ _ h => h) (Or.inl ⟨by kernel_rfl, ?_⟩) (by assumption) ?_; rotate_left; focus (intro W0 hSw; (try dsimp only at hSw); go_simp; (try with_reducible rfl)); (try simp only [Act.put, List.setIfInBounds_toArray, List.set_cons_zero, List.set_cons_succ])
  refine wpAnyH_take (i := 8) (oi := ⟨some 21, _, _, _, _, _⟩) (v := ?_) rfl (by kernel_rfl) (by kernel_rfl) (by kernel_rfl) (fun _ _ _ h => h) (Or.inl ⟨by kernel_rfl, ?_⟩) (by assumption) ?_; rotate_left; focus (intro W0 hSw; (try dsimp only at hSw); go_simp; (try with_reducible rfl)); (try simp only [Act.put, List.setIfInBounds_toArray, List.set_cons_zero, List.set_cons_succ])
  refine wpAnyH_take (i := 9) (oi := ⟨some 22, _, _, _, _, _⟩) (v := ?_) rfl (by kernel_rfl) (by kernel_rfl) (by kernel_rfl) (fun _ _ _ h => h) (Or.inl ⟨by kernel_rfl, ?_⟩) (by assumption) ?_; rotate_left; focus (intro W0 hSw; (try dsimp only at hSw); go_simp; (try with_reducible rfl)); (try simp only [Act.put, List.setIfInBounds_toArray, List.set_cons_zero, List.set_cons_succ])
  refine wpAnyH_take (i := 10) (oi := ⟨some 23, _, _, _, _, _⟩) (v := ?_) rfl (by kernel_rfl) (by kernel_rfl) (by kernel_rfl) (fun _ _ _ h => h) (Or.inl ⟨by kernel_rfl, ?_⟩) (by assumption) ?_; rotate_left; focus (intro W0 hSw; (try dsimp only at hSw); go_simp; (try with_reducible rfl)); (try simp only [Act.put, List.setIfInBounds_toArray, List.set_cons_zero, List.set_cons_succ])
  refine wpAnyH_inv (fuel := 1) [4, 5, 6, 11, 12, 13, 14, 15, 16] [17, 18, 19, 24, 25, 26, 27, 28, 7] (fun u L W => (World.grownBy wB W (some g) ∧ Src W g) ∧ (L 4 → FInt (u 17)) ∧ (L 5 → FInt (u 18)) ∧ (L 6 → FInt (u 19)) ∧ (L 11 → FInt (u 24)) ∧ (L 12 → FInt (u 25)) ∧ (L 13 → FInt (u 26)) ∧ (L 14 → FAgg2 (u 27)) ∧ (L 15 → FMark (u 28)) ∧ (L 16 → FBox g wB 5 (u 7) W) ∧ True) (by decide) (by kernel_rfl) (fun u L W hJ => ⟨cell_grown hJ.1.1 (by omega) HcE0, cell_grown hJ.1.1 (by omega) HcE1, HwE.trans hJ.1.1, hJ.1.2⟩) (fun u L hL => ⟨⟨gr_drew (World.grownBy.refl _ _), by assumption⟩, fun k => absurd k (hL 4 (by decide)), fun k => absurd k (hL 5 (by decide)), fun k => absurd k (hL 6 (by decide)), fun k => absurd k (hL 11 (by decide)), fun k => absurd k (hL 12 (by decide)), fun k => absurd k (hL 13 (by decide)), fun k => absurd k (hL 14 (by decide)), fun k => absurd k (hL 15 (by decide)), fun k => absurd k (hL 16 (by decide)), trivial⟩) ?_ ?_
  · refine StepsH.cons (d := 17) (o := ⟨some 17, _, _, _, _, _⟩) rfl rfl (by kernel_rfl) ?_ ?_
    rotate_left
    refine StepsH.cons (d := 18) (o := ⟨some 18, _, _, _, _, _⟩) rfl rfl (by kernel_rfl) ?_ ?_
    rotate_left
    refine StepsH.cons (d := 19) (o := ⟨some 19, _, _, _, _, _⟩) rfl rfl (by kernel_rfl) ?_ ?_
    rotate_left
    refine StepsH.cons (d := 24) (o := ⟨some 24, _, _, _, _, _⟩) rfl rfl (by kernel_rfl) ?_ ?_
    rotate_left
    refine StepsH.cons (d := 25) (o := ⟨some 25, _, _, _, _, _⟩) rfl rfl (by kernel_rfl) ?_ ?_
    rotate_left
    refine StepsH.cons (d := 26) (o := ⟨some 26, _, _, _, _, _⟩) rfl rfl (by kernel_rfl) ?_ ?_
    rotate_left
    refine StepsH.cons (d := 27) (o := ⟨some 27, _, _, _, _, _⟩) rfl rfl (by kernel_rfl) ?_ ?_
    rotate_left
    refine StepsH.cons (d := 28) (o := ⟨some 28, _, _, _, _, _⟩) rfl rfl (by kernel_rfl) ?_ ?_
    rotate_left
    refine StepsH.cons (d := 7) (o := ⟨some 7, _, _, _, _, _⟩) rfl rfl (by kernel_rfl) ?_ ?_
    rotate_left
    exact StepsH.nil
    · intro u L W hn hd hJ
      obtain ⟨hk, f17, f18, f19, f24, f25, f26, f27, f28, f7, _⟩ := hJ
      have hnd := hk.2
      intro K hK
      simp only [puts, Act.put, List.setIfInBounds_toArray, List.set_cons_zero, List.set_cons_succ]
      go_simp; (go_at_call 73; (with_reducible refine (spec_l01Next g 200 _ hnd (by decide)).mono ?_); rintro e w9 ⟨⟨xx, rfl, hxx⟩, hg, hs⟩)
      all_goals (try go_wp2_with fail)
      all_goals
        apply Shut.go3 (W := W) (g := g) hK
        · simp only [puts, Act.put, List.setIfInBounds_toArray, List.set_cons_zero, List.set_cons_succ]; rfl
        · first | with_reducible assumption | with_reducible exact World.grownBy.refl _ _ | exact World.grownBy_alloc _ _ _
        · first | with_reducible assumption | exact Src.alloc hnd _
        · intro hg hs; exact ⟨Dr.step hk hg hs, fun _ => by rw [upd_same]; exact ⟨_, rfl⟩, fun k => by rw [upd_ne u _ (by decide)]; exact (f18 (k.resolve_left (by decide))), fun k => by rw [upd_ne u _ (by decide)]; exact (f19 (k.resolve_left (by decide))), fun k => by rw [upd_ne u _ (by decide)]; exact (f24 (k.resolve_left (by decide))), fun k => by rw [upd_ne u _ (by decide)]; exact (f25 (k.resolve_left (by decide))), fun k => by rw [upd_ne u _ (by decide)]; exact (f26 (k.resolve_left (by decide))), fun k => by rw [upd_ne u _ (by decide)]; exact (f27 (k.resolve_left (by decide))), fun k => by rw [upd_ne u _ (by decide)]; exact (f28 (k.resolve_left (by decide))), fun k => by rw [upd_ne u _ (by decide)]; exact FBox.later hg (f7 (k.resolve_left (by decide))), trivial⟩
    · intro u L W hn hd hJ
      obtain ⟨hk, f17, f18, f19, f24, f25, f26, f27, f28, f7, _⟩ := hJ
      have hnd := hk.2
      obtain ⟨x17, e17⟩ := f17 (hd 4 (by kernel_rfl))
      intro K hK
      simp only [puts, Act.put, List.setIfInBounds_toArray, List.set_cons_zero, List.set_cons_succ, e17]
      go_simp
      all_goals (try go_wp2_with fail)
      all_goals
        apply Shut.go3 (W := W) (g := g) hK
        · simp only [puts, Act.put, List.setIfInBounds_toArray, List.set_cons_zero, List.set_cons_succ, e17]; rfl
        · first | with_reducible assumption | with_reducible exact World.grownBy.refl _ _ | exact World.grownBy_alloc _ _ _
        · first | with_reducible assumption | exact Src.alloc hnd _
        · intro hg hs; exact ⟨Dr.step hk hg hs, fun k => by rw [upd_ne u _ (by decide)]; exact (f17 (k.resolve_left (by decide))), fun _ => by rw [upd_same]; exact ⟨_, rfl⟩, fun k => by rw [upd_ne u _ (by decide)]; exact (f19 (k.resolve_left (by decide))), fun k => by rw [upd_ne u _ (by decide)]; exact (f24 (k.resolve_left (by decide))), fun k => by rw [upd_ne u _ (by decide)]; exact (f25 (k.resolve_left (by decide))), fun k => by rw [upd_ne u _ (by decide)]; exact (f26 (k.resolve_left (by decide))), fun k => by rw [upd_ne u _ (by decide)]; exact (f27 (k.resolve_left (by decide))), fun k => by rw [upd_ne u _ (by decide)]; exact (f28 (k.resolve_left (by decide))), fun k => by rw [upd_ne u _ (by decide)]; exact FBox.later hg (f7 (k.resolve_left (by decide))), trivial⟩
    · intro u L W hn hd hJ
      obtain ⟨hk, f17, f18, f19, f24, f25, f26, f27, f28, f7, _⟩ := hJ
      have hnd := hk.2
      obtain ⟨x18, e18⟩ := f18 (hd 5 (by kernel_rfl))
      intro K hK
      simp only [puts, Act.put, List.setIfInBounds_toArray, List.set_cons_zero, List.set_cons_succ, e18]
      go_simp
      all_goals (try go_wp2_with fail)
      all_goals
        apply Shut.go3 (W := W) (g := g) hK
        · simp only [puts, Act.put, List.setIfInBounds_toArray, List.set_cons_zero, List.set_cons_succ, e18]; rfl
        · first | with_reducible assumption | with_reducible exact World.grownBy.refl _ _ | exact World.grownBy_alloc _ _ _
        · first | with_reducible assumption | exact Src.alloc hnd _
        · intro hg hs; exact ⟨Dr.step hk hg hs, fun k => by rw [upd_ne u _ (by decide)]; exact (f17 (k.resolve_left (by decide))), fun k => by rw [upd_ne u _ (by decide)]; exact (f18 (k.resolve_left (by decide))), fun _ => by rw [upd_same]; exact ⟨_, rfl⟩, fun k => by rw [upd_ne u _ (by decide)]; exact (f24 (k.resolve_left (by decide))), fun k => by rw [upd_ne u _ (by decide)]; exact (f25 (k.resolve_left (by decide))), fun k => by rw [upd_ne u _ (by decide)]; exact (f26 (k.resolve_left (by decide))), fun k => by rw [upd_ne u _ (by decide)]; exact (f27 (k.resolve_left (by decide))), fun k => by rw [upd_ne u _ (by decide)]; exact (f28 (k.resolve_left (by decide))), fun k => by rw [upd_ne u _ (by decide)]; exact FBox.later hg (f7 (k.resolve_left (by decide))), trivial⟩
    · intro u L W hn hd hJ
      obtain ⟨hk, f17, f18, f19, f24, f25, f26, f27, f28, f7, _⟩ := hJ
      have hnd := hk.2
      intro K hK
      simp only [puts, Act.put, List.setIfInBounds_toArray, List.set_cons_zero, List.set_cons_succ]
      go_simp; (go_at_call 73; (with_reducible refine (spec_l01Next g 200 _ hnd (by decide)).mono ?_); rintro e w9 ⟨⟨xx, rfl, hxx⟩, hg, hs⟩)
      all_goals (try go_wp2_with fail)
      all_goals
        apply Shut.go3 (W := W) (g := g) hK
        · simp only [puts, Act.put, List.setIfInBounds_toArray, List.set_cons_zero, List.set_cons_succ]; rfl
        · first | with_reducible assumption | with_reducible exact World.grownBy.refl _ _ | exact World.grownBy_alloc _ _ _
        · first | with_reducible assumption | exact Src.alloc hnd _
        · intro hg hs; exact ⟨Dr.step hk hg hs, fun k => by rw [upd_ne u _ (by decide)]; exact (f17 (k.resolve_left (by decide))), fun k => by rw [upd_ne u _ (by decide)]; exact (f18 (k.resolve_left (by decide))), fun k => by rw [upd_ne u _ (by decide)]; exact (f19 (k.resolve_left (by decide))), fun _ => by rw [upd_same]; exact ⟨_, rfl⟩, fun k => by rw [upd_ne u _ (by decide)]; exact (f25 (k.resolve_left (by decide))), fun k => by rw [upd_ne u _ (by decide)]; exact (f26 (k.resolve_left (by decide))), fun k => by rw [upd_ne u _ (by decide)]; exact (f27 (k.resolve_left (by decide))), fun k => by rw [upd_ne u _ (by decide)]; exact (f28 (k.resolve_left (by decide))), fun k => by rw [upd_ne u _ (by decide)]; exact FBox.later hg (f7 (k.resolve_left (by decide))), trivial⟩
    · intro u L W hn hd hJ
      obtain ⟨hk, f17, f18, f19, f24, f25, f26, f27, f28, f7, _⟩ := hJ
      have hnd := hk.2
      obtain ⟨x24, e24⟩ := f24 (hd 11 (by kernel_rfl))
      intro K hK
      simp only [puts, Act.put, List.setIfInBounds_toArray, List.set_cons_zero, List.set_cons_succ, e24]
      go_simp
      all_goals (try go_wp2_with fail)
      all_goals
        apply Shut.go3 (W := W) (g := g) hK
        · simp only [puts, Act.put, List.setIfInBounds_toArray, List.set_cons_zero, List.set_cons_succ, e24]; rfl
        · first | with_reducible assumption | with_reducible exact World.grownBy.refl _ _ | exact World.grownBy_alloc _ _ _
        · first | with_reducible assumption | exact Src.alloc hnd _
        · intro hg hs; exact ⟨Dr.step hk hg hs, fun k => by rw [upd_ne u _ (by decide)]; exact (f17 (k.resolve_left (by decide))), fun k => by rw [upd_ne u _ (by decide)]; exact (f18 (k.resolve_left (by decide))), fun k => by rw [upd_ne u _ (by decide)]; exact (f19 (k.resolve_left (by decide))), fun k => by rw [upd_ne u _ (by decide)]; exact (f24 (k.resolve_left (by decide))), fun _ => by rw [upd_same]; exact ⟨_, rfl⟩, fun k => by rw [upd_ne u _ (by decide)]; exact (f26 (k.resolve_left (by decide))), fun k => by rw [upd_ne u _ (by decide)]; exact (f27 (k.resolve_left (by decide))), fun k => by rw [upd_ne u _ (by decide)]; exact (f28 (k.resolve_left (by decide))), fun k => by rw [upd_ne u _ (by decide)]; exact FBox.later hg (f7 (k.resolve_left (by decide))), trivial⟩
    · intro u L W hn hd hJ
      obtain ⟨hk, f17, f18, f19, f24, f25, f26, f27, f28, f7, _⟩ := hJ
      have hnd := hk.2
      obtain ⟨x25, e25⟩ := f25 (hd 12 (by kernel_rfl))
      intro K hK
      simp only [puts, Act.put, List.setIfInBounds_toArray, List.set_cons_zero, List.set_cons_succ, e25]
      go_simp
      all_goals (try go_wp2_with fail)
      all_goals
        apply Shut.go3 (W := W) (g := g) hK
        · simp only [puts, Act.put, List.setIfInBounds_toArray, List.set_cons_zero, List.set_cons_succ, e25]; rfl
        · first | with_reducible assumption | with_reducible exact World.grownBy.refl _ _ | exact World.grownBy_alloc _ _ _
        · first | with_reducible assumption | exact Src.alloc hnd _
        · intro hg hs; exact ⟨Dr.step hk hg hs, fun k => by rw [upd_ne u _ (by decide)]; exact (f17 (k.resolve_left (by decide))), fun k => by rw [upd_ne u _ (by decide)]; exact (f18 (k.resolve_left (by decide))), fun k => by rw [upd_ne u _ (by decide)]; exact (f19 (k.resolve_left (by decide))), fun k => by rw [upd_ne u _ (by decide)]; exact (f24 (k.resolve_left (by decide))), fun k => by rw [upd_ne u _ (by decide)]; exact (f25 (k.resolve_left (by decide))), fun _ => by rw [upd_same]; exact ⟨_, rfl⟩, fun k => by rw [upd_ne u _ (by decide)]; exact (f27 (k.resolve_left (by decide))), fun k => by rw [upd_ne u _ (by decide)]; exact (f28 (k.resolve_left (by decide))), fun k => by rw [upd_ne u _ (by decide)]; exact FBox.later hg (f7 (k.resolve_left (by decide))), trivial⟩
    · intro u L W hn hd hJ
      obtain ⟨hk, f17, f18, f19, f24, f25, f26, f27, f28, f7, _⟩ := hJ
      have hnd := hk.2
      obtain ⟨x19, e19⟩ := f19 (hd 6 (by kernel_rfl))
      obtain ⟨x26, e26⟩ := f26 (hd 13 (by kernel_rfl))
      intro K hK
      simp only [puts, Act.put, List.setIfInBounds_toArray, List.set_cons_zero, List.set_cons_succ, e19, e26]
      go_simp
      all_goals (try go_wp2_with fail)
      all_goals
        apply Shut.go3 (W := W) (g := g) hK
        · simp only [puts, Act.put, List.setIfInBounds_toArray, List.set_cons_zero, List.set_cons_succ, e19, e26]; rfl
        · first | with_reducible assumption | with_reducible exact World.grownBy.refl _ _ | exact World.grownBy_alloc _ _ _
        · first | with_reducible assumption | exact Src.alloc hnd _
        · intro hg hs; exact ⟨Dr.step hk hg hs, fun k => by rw [upd_ne u _ (by decide)]; exact (f17 (k.resolve_left (by decide))), fun k => by rw [upd_ne u _ (by decide)]; exact (f18 (k.resolve_left (by decide))), fun k => by rw [upd_ne u _ (by decide)]; exact (f19 (k.resolve_left (by decide))), fun k => by rw [upd_ne u _ (by decide)]; exact (f24 (k.resolve_left (by decide))), fun k => by rw [upd_ne u _ (by decide)]; exact (f25 (k.resolve_left (by decide))), fun k => by rw [upd_ne u _ (by decide)]; exact (f26 (k.resolve_left (by decide))), fun _ => by rw [upd_same]; exact ⟨_, _, rfl⟩, fun k => by rw [upd_ne u _ (by decide)]; exact (f28 (k.resolve_left (by decide))), fun k => by rw [upd_ne u _ (by decide)]; exact FBox.later hg (f7 (k.resolve_left (by decide))), trivial⟩
    · intro u L W hn hd hJ
      obtain ⟨hk, f17, f18, f19, f24, f25, f26, f27, f28, f7, _⟩ := hJ
      have hnd := hk.2
      obtain ⟨x27_0, x27_1, e27⟩ := f27 (hd 14 (by kernel_rfl))
      intro K hK
      simp only [puts, Act.put, List.setIfInBounds_toArray, List.set_cons_zero, List.set_cons_succ, e27]
      go_simp
      all_goals (try go_wp2_with fail)
      all_goals
        apply Shut.go3 (W := W) (g := g) hK
        · simp only [puts, Act.put, List.setIfInBounds_toArray, List.set_cons_zero, List.set_cons_succ, e27]; rfl
        · first | with_reducible assumption | with_reducible exact World.grownBy.refl _ _ | exact World.grownBy_alloc _ _ _
        · first | with_reducible assumption | exact Src.alloc hnd _
        · intro hg hs; exact ⟨Dr.step hk hg hs, fun k => by rw [upd_ne u _ (by decide)]; exact (f17 (k.resolve_left (by decide))), fun k => by rw [upd_ne u _ (by decide)]; exact (f18 (k.resolve_left (by decide))), fun k => by rw [upd_ne u _ (by decide)]; exact (f19 (k.resolve_left (by decide))), fun k => by rw [upd_ne u _ (by decide)]; exact (f24 (k.resolve_left (by decide))), fun k => by rw [upd_ne u _ (by decide)]; exact (f25 (k.resolve_left (by decide))), fun k => by rw [upd_ne u _ (by decide)]; exact (f26 (k.resolve_left (by decide))), fun k => by rw [upd_ne u _ (by decide)]; exact (f27 (k.resolve_left (by decide))), fun _ => by rw [upd_same]; exact ⟨_, _, _, _, _, rfl⟩, fun k => by rw [upd_ne u _ (by decide)]; exact FBox.later hg (f7 (k.resolve_left (by decide))), trivial⟩
    · intro u L W hn hd hJ
      obtain ⟨hk, f17, f18, f19, f24, f25, f26, f27, f28, f7, _⟩ := hJ
      have hnd := hk.2
      intro K hK
      simp only [puts, Act.put, List.setIfInBounds_toArray, List.set_cons_zero, List.set_cons_succ]
      go_simp
      all_goals (try go_wp2_with fail)
      all_goals
        apply Shut.go3 (W := W) (g := g) hK
        · simp only [puts, Act.put, List.setIfInBounds_toArray, List.set_cons_zero, List.set_cons_succ]; rfl
        · first | with_reducible assumption | with_reducible exact World.grownBy.refl _ _ | exact World.grownBy_alloc _ _ _
        · first | with_reducible assumption | exact Src.alloc hnd _
        · intro hg hs; exact ⟨Dr.step hk hg hs, fun k => by rw [upd_ne u _ (by decide)]; exact (f17 (k.resolve_left (by decide))), fun k => by rw [upd_ne u _ (by decide)]; exact (f18 (k.resolve_left (by decide))), fun k => by rw [upd_ne u _ (by decide)]; exact (f19 (k.resolve_left (by decide))), fun k => by rw [upd_ne u _ (by decide)]; exact (f24 (k.resolve_left (by decide))), fun k => by rw [upd_ne u _ (by decide)]; exact (f25 (k.resolve_left (by decide))), fun k => by rw [upd_ne u _ (by decide)]; exact (f26 (k.resolve_left (by decide))), fun k => by rw [upd_ne u _ (by decide)]; exact (f27 (k.resolve_left (by decide))), fun k => by rw [upd_ne u _ (by decide)]; exact (f28 (k.resolve_left (by decide))), fun _ => by rw [upd_same]; exact FBox.new (Src.lt hnd) (World.grownBy.size hk.1) _ _ (by rfl), trivial⟩
  · intro u L W hJ hL
    obtain ⟨hk, f17, f18, f19, f24, f25, f26, f27, f28, f7, _⟩ := hJ
    obtain ⟨x17, e17⟩ := f17 (hL 4 (by kernel_rfl))
    obtain ⟨x18, e18⟩ := f18 (hL 5 (by kernel_rfl))
    obtain ⟨x19, e19⟩ := f19 (hL 6 (by kernel_rfl))
    obtain ⟨x24, e24⟩ := f24 (hL 11 (by kernel_rfl))
    obtain ⟨x25, e25⟩ := f25 (hL 12 (by kernel_rfl))
    obtain ⟨x26, e26⟩ := f26 (hL 13 (by kernel_rfl))
    obtain ⟨x27_0, x27_1, e27⟩ := f27 (hL 14 (by kernel_rfl))
    obtain ⟨x28_0, x28_1, x28_2, x28_3, x28_4, e28⟩ := f28 (hL 15 (by kernel_rfl))
    obtain ⟨b7, e7, gb7, bb7, lb7, cb7⟩ := f7 (hL 16 (by kernel_rfl))
    clear hHeld; have hcW := gcell hk.1; have hfW := gfroz hk.1; have hHeld := And.intro (HwE.trans hk.1) hk.2; have lW := hk.1.size
    clear f17
    clear f18
    clear f19
    clear f24
    clear f25
    clear f26
    clear f27
    clear f28
    clear f7
    simp only [puts, Act.put, List.setIfInBounds_toArray, List.set_cons_zero, List.set_cons_succ, setAll, Array.replicate, e17, e18, e19, e24, e25, e26, e27, e28, e7]
    obtain ⟨⟨y7_0, cy7_0⟩, fy7_0⟩ := cb7 0 (by decide)
    obtain ⟨⟨y7_1, cy7_1⟩, fy7_1⟩ := cb7 1 (by decide)
    obtain ⟨⟨y7_2, cy7_2⟩, fy7_2⟩ := cb7 2 (by decide)
    obtain ⟨⟨y7_3, cy7_3⟩, fy7_3⟩ := cb7 3 (by decide)
    obtain ⟨⟨y7_4, cy7_4⟩, fy7_4⟩ := cb7 4 (by decide)
    refine wpAnyH_ready (rs := [17]) (by kernel_rfl) (by simp) ?_; refine (AllReadyH.cons (o := ⟨none, _, _, _, _, _⟩) rfl (fun K hK => ?_) AllReadyH.nil)
    go_simp
    all_goals (try go_wp2_with fail)
    refine hK.out _ _ ?_ (fun hH2 => ?_)
    · have hHg := hHeld.1; have hHs := hHeld.2; exact ⟨(by go_simp; done), (by go_simp; done), (by repeat (first | with_reducible exact World.grownBy.refl _ _ | with_reducible assumption | with_reducible refine gr_alloc ?_ _ | with_reducible refine gr_drew ?_ | with_reducible refine gr_drewN ?_ _ | with_reducible refine gr_new ?_ (by first | exact Nat.le_refl _ | (dsimp only; omega) | (simp; omega)) | with_reducible refine gr_step ?_ (by assumption))), (by repeat (first | with_reducible assumption | with_reducible refine Src.alloc ?_ _ | with_reducible refine Src.drewN ?_ _ | with_reducible refine Src.drew ?_ | with_reducible refine Src.set (by first | (dsimp only; omega) | (simp; omega)) ?_))⟩
    clear hK K hHeld; (have hHeld := hH2.2.2); clear hH2; (try simp only [Act.put])
    refine wpAnyH_done (by kernel_rfl) ?_ _; (try simp only [Act.put, List.setIfInBounds_toArray, List.set_cons_zero, List.set_cons_succ])
    obtain ⟨hgE, hsE⟩ := hHeld
    have vx0 : w.heap.size < W.heap.size := (by omega)
    have vy0 : ¬ b7 = w.heap.size := (by omega)
    have vz0 : ¬ w.heap.size = b7 := (by omega)
    have vx1 : w.heap.size + 1 < W.heap.size := (by omega)
    have vy1 : ¬ b7 = w.heap.size + 1 := (by omega)
    have vz1 : ¬ w.heap.size + 1 = b7 := (by omega)
    have vx2 : w.heap.size + 1 + 1 < W.heap.size := (by omega)
    have vy2 : ¬ b7 = w.heap.size + 1 + 1 := (by omega)
    have vz2 : ¬ w.heap.size + 1 + 1 = b7 := (by omega)
    have vx3 : w1.heap.size < W.heap.size := (by omega)
    have vy3 : ¬ b7 = w1.heap.size := (by omega)
    have vz3 : ¬ w1.heap.size = b7 := (by omega)
    have vx4 : w1.heap.size + 1 < W.heap.size := (by omega)
    have vy4 : ¬ b7 = w1.heap.size + 1 := (by omega)
    have vz4 : ¬ w1.heap.size + 1 = b7 := (by omega)
    have vg : ¬ b7 = g := (by omega)
    have vg2 : ¬ g = b7 := (by omega)
    go_wp2_with fail; (with_reducible refine (spec_l01Next g _ _ (by repeat (first | with_reducible assumption | with_reducible refine Src.alloc ?_ _ | with_reducible refine Src.drewN ?_ _ | with_reducible refine Src.drew ?_ | with_reducible refine Src.set (by first | (dsimp only; omega) | (simp; omega)) ?_)) (by decide)).mono ?_); rintro e w5 ⟨⟨x5, rfl, hx5⟩, hg5, hs5⟩; have hc5 := gcell hg5; have hf5 := gfroz hg5; have lg5 := Src.lt hs5; have nga5 : ¬ w5.heap.size = g := (by omega); have ngb5 : ¬ g = w5.heap.size := (by omega); have hzs5 := hg5.size; (try simp at hzs5); have zx5_0 : w.heap.size < w5.heap.size := (by first | omega | (simp at hzs5; omega)); have zy5_0 : w.heap.size < w5.heap.size + 1 := (by omega); have zw5_0 : ¬ w5.heap.size = w.heap.size := (by omega); have zv5_0 : ¬ w.heap.size = w5.heap.size := (by omega); have zu5_0 : w.heap.size < w5.heap.size + 1 + 1 := (by omega); have zt5_0 : ¬ w5.heap.size + 1 = w.heap.size := (by omega); have zr5_0 : ¬ w.heap.size = w5.heap.size + 1 := (by omega); have zx5_1 : w.heap.size + 1 < w5.heap.size := (by first | omega | (simp at hzs5; omega)); have zy5_1 : w.heap.size + 1 < w5.heap.size + 1 := (by omega); have zw5_1 : ¬ w5.heap.size = w.heap.size + 1 := (by omega); have zv5_1 : ¬ w.heap.size + 1 = w5.heap.size := (by omega); have zu5_1 : w.heap.size + 1 < w5.heap.size + 1 + 1 := (by omega); have zt5_1 : ¬ w5.heap.size + 1 = w.heap.size + 1 := (by omega); have zr5_1 : ¬ w.heap.size + 1 = w5.heap.size + 1 := (by omega); have zx5_2 : w.heap.size + 1 + 1 < w5.heap.size := (by first | omega | (simp at hzs5; omega)); have zy5_2 : w.heap.size + 1 + 1 < w5.heap.size + 1 := (by omega); have zw5_2 : ¬ w5.heap.size = w.heap.size + 1 + 1 := (by omega); have zv5_2 : ¬ w.heap.size + 1 + 1 = w5.heap.size := (by omega); have zu5_2 : w.heap.size + 1 + 1 < w5.heap.size + 1 + 1 := (by omega); have zt5_2 : ¬ w5.heap.size + 1 = w.heap.size + 1 + 1 := (by omega); have zr5_2 : ¬ w.heap.size + 1 + 1 = w5.heap.size + 1 := (by omega); have zx5_3 : w1.heap.size < w5.heap.size := (by first | omega | (simp at hzs5; omega)); have zy5_3 : w1.heap.size < w5.heap.size + 1 := (by omega); have zw5_3 : ¬ w5.heap.size = w1.heap.size := (by omega); have zv5_3 : ¬ w1.heap.size = w5.heap.size := (by omega); have zu5_3 : w1.heap.size < w5.heap.size + 1 + 1 := (by omega); have zt5_3 : ¬ w5.heap.size + 1 = w1.heap.size := (by omega); have zr5_3 : ¬ w1.heap.size = w5.heap.size + 1 := (by omega); have zx5_4 : w1.heap.size + 1 < w5.heap.size := (by first | omega | (simp at hzs5; omega)); have zy5_4 : w1.heap.size + 1 < w5.heap.size + 1 := (by omega); have zw5_4 : ¬ w5.heap.size = w1.heap.size + 1 := (by omega); have zv5_4 : ¬ w1.heap.size + 1 = w5.heap.size := (by omega); have zu5_4 : w1.heap.size + 1 < w5.heap.size + 1 + 1 := (by omega); have zt5_4 : ¬ w5.heap.size + 1 = w1.heap.size + 1 := (by omega); have zr5_4 : ¬ w1.heap.size + 1 = w5.heap.size + 1 := (by omega); have zx5_5 : b7 < w5.heap.size := (by first | omega | (simp at hzs5; omega)); have zy5_5 : b7 < w5.heap.size + 1 := (by omega); have zw5_5 : ¬ w5.heap.size = b7 := (by omega); have zv5_5 : ¬ b7 = w5.heap.size := (by omega); have zu5_5 : b7 < w5.heap.size + 1 + 1 := (by omega); have zt5_5 : ¬ w5.heap.size + 1 = b7 := (by omega); have zr5_5 : ¬ b7 = w5.heap.size + 1 := (by omega)
    clear hx5
    have mq0 : w5.cell? ⟨b7, 0, none⟩ = some (.string x28_0) := by go_simp
    have mq1 : w5.cell? ⟨b7, 1, none⟩ = some (.int .i64 x28_1) := by go_simp
    have mq2 : w5.cell? ⟨b7, 2, none⟩ = some (.int .i64 x28_2) := by go_simp
    have mq3 : w5.cell? ⟨b7, 3, none⟩ = some (.int .i64 x28_3) := by go_simp
    have mq4 : w5.cell? ⟨b7, 4, none⟩ = some (.int .i64 x28_4) := by go_simp
    have mf1 : w5.frozen? ⟨b7, 1, none⟩ = false := by go_simp
    have na0_0 : w5.cell? ⟨w.heap.size, 0, none⟩ = some (.string ByteArray.empty) := by go_simp
    have nb0_0 : w5.frozen? ⟨w.heap.size, 0, none⟩ = false := by go_simp
    have na0_1 : w5.cell? ⟨w.heap.size, 1, none⟩ = some (.int .i64 0) := by go_simp
    have nb0_1 : w5.frozen? ⟨w.heap.size, 1, none⟩ = false := by go_simp
    have na0_2 : w5.cell? ⟨w.heap.size, 2, none⟩ = some (.int .i64 0) := by go_simp
    have nb0_2 : w5.frozen? ⟨w.heap.size, 2, none⟩ = false := by go_simp
    have na0_3 : w5.cell? ⟨w.heap.size, 3, none⟩ = some (.int .i64 0) := by go_simp
    have nb0_3 : w5.frozen? ⟨w.heap.size, 3, none⟩ = false := by go_simp
    have na0_4 : w5.cell? ⟨w.heap.size, 4, none⟩ = some (.int .i64 0) := by go_simp
    have nb0_4 : w5.frozen? ⟨w.heap.size, 4, none⟩ = false := by go_simp
    have na1_0 : w5.cell? ⟨w.heap.size + 1, 0, none⟩ = some (.int .i64 0) := by go_simp
    have nb1_0 : w5.frozen? ⟨w.heap.size + 1, 0, none⟩ = false := by go_simp
    have na1_1 : w5.cell? ⟨w.heap.size + 1, 1, none⟩ = some (.int .i64 0) := by go_simp
    have nb1_1 : w5.frozen? ⟨w.heap.size + 1, 1, none⟩ = false := by go_simp
    have na1_2 : w5.cell? ⟨w.heap.size + 1, 2, none⟩ = some (.int .i64 0) := by go_simp
    have nb1_2 : w5.frozen? ⟨w.heap.size + 1, 2, none⟩ = false := by go_simp
    have na1_3 : w5.cell? ⟨w.heap.size + 1, 3, none⟩ = some (.int .i64 0) := by go_simp
    have nb1_3 : w5.frozen? ⟨w.heap.size + 1, 3, none⟩ = false := by go_simp
    have na1_4 : w5.cell? ⟨w.heap.size + 1, 4, none⟩ = some (.int .i64 0) := by go_simp
    have nb1_4 : w5.frozen? ⟨w.heap.size + 1, 4, none⟩ = false := by go_simp
    have na2_0 : w5.cell? ⟨w.heap.size + 1 + 1, 0, none⟩ = some (.int .i64 0) := by go_simp
    have nb2_0 : w5.frozen? ⟨w.heap.size + 1 + 1, 0, none⟩ = false := by go_simp
    have na2_1 : w5.cell? ⟨w.heap.size + 1 + 1, 1, none⟩ = some (.int .i64 0) := by go_simp
    have nb2_1 : w5.frozen? ⟨w.heap.size + 1 + 1, 1, none⟩ = false := by go_simp
    have na2_2 : w5.cell? ⟨w.heap.size + 1 + 1, 2, none⟩ = some (.int .i64 0) := by go_simp
    have nb2_2 : w5.frozen? ⟨w.heap.size + 1 + 1, 2, none⟩ = false := by go_simp
    have na2_3 : w5.cell? ⟨w.heap.size + 1 + 1, 3, none⟩ = some (.int .i64 0) := by go_simp
    have nb2_3 : w5.frozen? ⟨w.heap.size + 1 + 1, 3, none⟩ = false := by go_simp
    have na2_4 : w5.cell? ⟨w.heap.size + 1 + 1, 4, none⟩ = some (.int .i64 0) := by go_simp
    have nb2_4 : w5.frozen? ⟨w.heap.size + 1 + 1, 4, none⟩ = false := by go_simp
    have nt0_0 : w5.cell? ⟨w1.heap.size, 0, none⟩ = some (.int .i64 a) := by go_simp
    have nt0_1 : w5.cell? ⟨w1.heap.size, 1, none⟩ = some (.int .i64 b) := by go_simp
    have nt0_2 : w5.cell? ⟨w1.heap.size, 2, none⟩ = some (.int .i64 c) := by go_simp
    have nt0_3 : w5.cell? ⟨w1.heap.size, 3, none⟩ = some (.int .i64 d) := by go_simp
    have nt0_4 : w5.cell? ⟨w1.heap.size, 4, none⟩ = some (.int .i64 l) := by go_simp
    have nt1_0 : w5.cell? ⟨w1.heap.size + 1, 0, none⟩ = some (.int .i64 a') := by go_simp
    have nt1_1 : w5.cell? ⟨w1.heap.size + 1, 1, none⟩ = some (.int .i64 b') := by go_simp
    have nt1_2 : w5.cell? ⟨w1.heap.size + 1, 2, none⟩ = some (.int .i64 c') := by go_simp
    have nt1_3 : w5.cell? ⟨w1.heap.size + 1, 3, none⟩ = some (.int .i64 d') := by go_simp
    have nt1_4 : w5.cell? ⟨w1.heap.size + 1, 4, none⟩ = some (.int .i64 l') := by go_simp
    have ntf : w5.frozen? ⟨w1.heap.size + 1, 4, none⟩ = false := by go_simp
    clear hc5 hf5
    by_cases k0 : x5 = 0
    · subst k0
      go_upto_region 8 with fail
      go_region
      go_wp2
      simp [bodyPost, results, Try.results57, go_sem, *]
      first | exact ⟨⟨_, _, _, _, _, _, _, _, _, _, _, _, _, _, _, rfl⟩, (by repeat (first | with_reducible exact World.grownBy.refl _ _ | with_reducible assumption | with_reducible refine gr_alloc ?_ _ | with_reducible refine gr_drew ?_ | with_reducible refine gr_drewN ?_ _ | with_reducible refine gr_new ?_ (by first | exact Nat.le_refl _ | (dsimp only; omega) | (simp; omega)) | with_reducible refine gr_step ?_ (by assumption))), (by repeat (first | with_reducible assumption | with_reducible refine Src.alloc ?_ _ | with_reducible refine Src.drewN ?_ _ | with_reducible refine Src.drew ?_ | with_reducible refine Src.set (by first | (dsimp only; omega) | (simp; omega)) ?_))⟩ | exact ⟨(by repeat (first | with_reducible exact World.grownBy.refl _ _ | with_reducible assumption | with_reducible refine gr_alloc ?_ _ | with_reducible refine gr_drew ?_ | with_reducible refine gr_drewN ?_ _ | with_reducible refine gr_new ?_ (by first | exact Nat.le_refl _ | (dsimp only; omega) | (simp; omega)) | with_reducible refine gr_step ?_ (by assumption))), (by repeat (first | with_reducible assumption | with_reducible refine Src.alloc ?_ _ | with_reducible refine Src.drewN ?_ _ | with_reducible refine Src.drew ?_ | with_reducible refine Src.set (by first | (dsimp only; omega) | (simp; omega)) ?_))⟩
    · have k2 : (x5 == 0) = false := beq_eq_false_iff_ne.2 k0
      by_cases k1 : x5 = 1
      · subst k1
        go_upto_region 8 with fail
        go_region
        go_wp2
        simp [bodyPost, results, Try.results57, go_sem, *]
        first | exact ⟨⟨_, _, _, _, _, _, _, _, _, _, _, _, _, _, _, rfl⟩, (by repeat (first | with_reducible exact World.grownBy.refl _ _ | with_reducible assumption | with_reducible refine gr_alloc ?_ _ | with_reducible refine gr_drew ?_ | with_reducible refine gr_drewN ?_ _ | with_reducible refine gr_new ?_ (by first | exact Nat.le_refl _ | (dsimp only; omega) | (simp; omega)) | with_reducible refine gr_step ?_ (by assumption))), (by repeat (first | with_reducible assumption | with_reducible refine Src.alloc ?_ _ | with_reducible refine Src.drewN ?_ _ | with_reducible refine Src.drew ?_ | with_reducible refine Src.set (by first | (dsimp only; omega) | (simp; omega)) ?_))⟩ | exact ⟨(by repeat (first | with_reducible exact World.grownBy.refl _ _ | with_reducible assumption | with_reducible refine gr_alloc ?_ _ | with_reducible refine gr_drew ?_ | with_reducible refine gr_drewN ?_ _ | with_reducible refine gr_new ?_ (by first | exact Nat.le_refl _ | (dsimp only; omega) | (simp; omega)) | with_reducible refine gr_step ?_ (by assumption))), (by repeat (first | with_reducible assumption | with_reducible refine Src.alloc ?_ _ | with_reducible refine Src.drewN ?_ _ | with_reducible refine Src.drew ?_ | with_reducible refine Src.set (by first | (dsimp only; omega) | (simp; omega)) ?_))⟩
      · have k3 : (x5 == 1) = false := beq_eq_false_iff_ne.2 k1
        go_upto_region 8 with fail
        go_region
        go_wp2
        simp [bodyPost, results, Try.results57, go_sem, *]
        first | exact ⟨⟨_, _, _, _, _, _, _, _, _, _, _, _, _, _, _, rfl⟩, (by repeat (first | with_reducible exact World.grownBy.refl _ _ | with_reducible assumption | with_reducible refine gr_alloc ?_ _ | with_reducible refine gr_drew ?_ | with_reducible refine gr_drewN ?_ _ | with_reducible refine gr_new ?_ (by first | exact Nat.le_refl _ | (dsimp only; omega) | (simp; omega)) | with_reducible refine gr_step ?_ (by assumption))), (by repeat (first | with_reducible assumption | with_reducible refine Src.alloc ?_ _ | with_reducible refine Src.drewN ?_ _ | with_reducible refine Src.drew ?_ | with_reducible refine Src.set (by first | (dsimp only; omega) | (simp; omega)) ?_))⟩ | exact ⟨(by repeat (first | with_reducible exact World.grownBy.refl _ _ | with_reducible assumption | with_reducible refine gr_alloc ?_ _ | with_reducible refine gr_drew ?_ | with_reducible refine gr_drewN ?_ _ | with_reducible refine gr_new ?_ (by first | exact Nat.le_refl _ | (dsimp only; omega) | (simp; omega)) | with_reducible refine gr_step ?_ (by assumption))), (by repeat (first | with_reducible assumption | with_reducible refine Src.alloc ?_ _ | with_reducible refine Src.drewN ?_ _ | with_reducible refine Src.drew ?_ | with_reducible refine Src.set (by first | (dsimp only; omega) | (simp; omega)) ?_))⟩
end Go.Proofs.Ytkhapajjbomknaa
