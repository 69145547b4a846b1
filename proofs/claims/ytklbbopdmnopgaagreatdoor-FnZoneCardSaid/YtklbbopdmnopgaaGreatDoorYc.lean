/- Walks: segments and lines are drawn. -/
import Derived.Test.YtklbbopdmnopgaaGreatDoorYa
namespace Go.Proofs.YtklbbopdmnopgaaGreatDoor
open Go.RowKit

theorem isSg_ofP {a b c d : Int} (h1 : isPt a b = true) (h2 : isPt c d = true) (h : ¬ (a = c ∧ b = d)) : isSg a b c d = true := by
 unfold isSg
 rw [h1, h2]
 simp only [Bool.and_self, Bool.true_and, Bool.not_eq_true']
 by_cases e : a = c
 ·rw [beq_eq_false_iff_ne.2 (fun k => h ⟨e, k⟩), Bool.and_false]
 ·rw [beq_eq_false_iff_ne.2 e, Bool.false_and]
/-- What a draw of a segment returns. -/
def SgB (w : World) (g : Nat) (e : Ending) (w' : World) : Prop := (∃ a b c d : Int, e = .returned (.agg #[.int .i64 a, .int .i64 b, .int .i64 c, .int .i64 d]) ∧ isSg a b c d = true) ∧ w.grownBy w' (some g) ∧ Src w' g
set_option maxRecDepth 100000 in
set_option maxHeartbeats 4000000 in
theorem spec_l02Draw_b (g : Nat) (w : World) (h : Src w g) : Calls Tryz.prog 72 #[.pointer (some ⟨g, 0, none⟩)] w (SgB w g) := by
 have ng := Src.lt h
 have nz0 : ¬ w.heap.size = g := by omega
 have nz1 : ¬ g = w.heap.size := by omega
 go_enter Tryz.func72, Tryz.ntmps72
 go_wp2_with fail; (with_reducible refine (spec_l01DrawPoint_b g _ swz).mono ?_); rintro e w1 ⟨⟨ax, ay, rfl, hp⟩, hg1, hs1⟩; have hc1 := gcell hg1; have hf1 := gfroz hg1; have lg1 := Src.lt hs1; have nga1 : ¬ w1.heap.size = g := (by omega); have ngb1 : ¬ g = w1.heap.size := (by omega); have hzs1 := hg1.size; (try simp at hzs1); have zx1_0 : w.heap.size < w1.heap.size := (by first | omega | (simp at hzs1; omega)); have zy1_0 : w.heap.size < w1.heap.size + 1 := (by omega); have zw1_0 : ¬ w1.heap.size = w.heap.size := (by omega); have zv1_0 : ¬ w.heap.size = w1.heap.size := (by omega); have zu1_0 : w.heap.size < w1.heap.size + 1 + 1 := (by omega); have zt1_0 : ¬ w1.heap.size + 1 = w.heap.size := (by omega); have zr1_0 : ¬ w.heap.size = w1.heap.size + 1 := (by omega)
 go_wp2_with fail; (with_reducible refine (spec_l01DrawPoint_b g _ swz).mono ?_); rintro e w2 ⟨⟨bx, bY, rfl, hq⟩, hg2, hs2⟩; have hc2 := gcell hg2; have hf2 := gfroz hg2; have lg2 := Src.lt hs2; have nga2 : ¬ w2.heap.size = g := (by omega); have ngb2 : ¬ g = w2.heap.size := (by omega); have hzs2 := hg2.size; (try simp at hzs2); have zx2_0 : w.heap.size < w2.heap.size := (by first | omega | (simp at hzs2; omega)); have zy2_0 : w.heap.size < w2.heap.size + 1 := (by omega); have zw2_0 : ¬ w2.heap.size = w.heap.size := (by omega); have zv2_0 : ¬ w.heap.size = w2.heap.size := (by omega); have zu2_0 : w.heap.size < w2.heap.size + 1 + 1 := (by omega); have zt2_0 : ¬ w2.heap.size + 1 = w.heap.size := (by omega); have zr2_0 : ¬ w.heap.size = w2.heap.size + 1 := (by omega)
 have ng2 : ¬ w2.heap.size + 1 = g := by omega
 obtain ⟨p1, p2, p3, p4⟩ := isPt_t hp
 by_cases hE : ax = bx ∧ ay = bY
 ·obtain ⟨rfl, rfl⟩ := hE
  have e1 : IntKind.i64.wrap (ay - 1) = ay - 1 := IntWalk.i64_in _ (by omega)
  have e2 : IntKind.i64.wrap (ay + 1) = ay + 1 := IntWalk.i64_in _ (by omega)
  by_cases hy : ay < 0
  ·have hd := decide_eq_true hy
   go_wp2
   simp [bodyPost, results, Tryz.results72, go_sem, *]
   exact ⟨⟨_, _, _, _, rfl, isSg_ofP hp (isPt_of (by omega) (by omega) (by omega) (by omega)) (by omega)⟩, gwz, swz⟩
  ·have hd := decide_eq_false hy
   go_wp2
   simp [bodyPost, results, Tryz.results72, go_sem, *]
   exact ⟨⟨_, _, _, _, rfl, isSg_ofP hp (isPt_of (by omega) (by omega) (by omega) (by omega)) (by omega)⟩, gwz, swz⟩
 ·have hd : (ax == bx && ay == bY) = false := by
   by_cases e : ax = bx
   ·rw [beq_eq_false_iff_ne.2 (fun k => hE ⟨e, k⟩), Bool.and_false]
   ·rw [beq_eq_false_iff_ne.2 e, Bool.false_and]
  have hS := isSg_ofP hp hq hE
  go_wp2
  all_goals
   simp [bodyPost, results, Tryz.results72, go_sem, *]
   exact ⟨⟨_, _, _, _, rfl, by first | exact hS | (rw [show ax = bx from by assumption] at hS; exact hS)⟩, gwz, swz⟩
set_option maxRecDepth 100000 in
set_option maxHeartbeats 4000000 in
theorem spec_l04DrawLine_b (g : Nat) (w : World) (h : Src w g) : Calls Tryz.prog 50 #[.pointer (some ⟨g, 0, none⟩)] w (SgB w g) := by
 have ng := Src.lt h
 have nz0 : ¬ w.heap.size = g := by omega
 have nz1 : ¬ g = w.heap.size := by omega
 go_enter Tryz.func50, Tryz.ntmps50
 go_wp2_with fail; (with_reducible refine (spec_l02Draw_b g _ swz).mono ?_); rintro e w1 ⟨⟨a, b, c, d, rfl, hs⟩, hg1, hs1⟩; have hc1 := gcell hg1; have hf1 := gfroz hg1; have lg1 := Src.lt hs1; have nga1 : ¬ w1.heap.size = g := (by omega); have ngb1 : ¬ g = w1.heap.size := (by omega); have hzs1 := hg1.size; (try simp at hzs1); have zx1_0 : w.heap.size < w1.heap.size := (by first | omega | (simp at hzs1; omega)); have zy1_0 : w.heap.size < w1.heap.size + 1 := (by omega); have zw1_0 : ¬ w1.heap.size = w.heap.size := (by omega); have zv1_0 : ¬ w.heap.size = w1.heap.size := (by omega); have zu1_0 : w.heap.size < w1.heap.size + 1 + 1 := (by omega); have zt1_0 : ¬ w1.heap.size + 1 = w.heap.size := (by omega); have zr1_0 : ¬ w.heap.size = w1.heap.size + 1 := (by omega)
 go_wp2
 simp [bodyPost, results, Tryz.results50, go_sem, *]
 exact ⟨⟨_, _, _, _, rfl, hs⟩, gwz, swz⟩
end Go.Proofs.YtklbbopdmnopgaaGreatDoor
