/- Walks: points that are drawn are points; segments and lines that are drawn are such. -/
import Derived.Test.YthlnpcneicmblaaGreatDoorDb
import Derived.Test.YthlnpcneicmblaaGreatDoorI
namespace Go.Proofs.YthlnpcneicmblaaGreatDoor
open Go.RowKit

/-- A point in a temporary. -/
def FPt (v : Value) (_W : World) : Prop := ∃ x y : Int, v = .agg #[.int .i64 x, .int .i64 y] ∧ isPt x y = true
theorem FPt.later {v : Value} {W W' : World} {g : Nat} (_hg : W.grownBy W' (some g)) (h : FPt v W) : FPt v W' := h
/-- What a draw of a point returns. -/
def PtB (w : World) (g : Nat) (e : Ending) (w' : World) : Prop := (∃ x y : Int, e = .returned (.agg #[.int .i64 x, .int .i64 y]) ∧ isPt x y = true) ∧ w.grownBy w' (some g) ∧ Src w' g
theorem isPt_of {x y : Int} (h1 : -1000000 ≤ x) (h2 : x ≤ 1000000) (h3 : -1000000 ≤ y) (h4 : y ≤ 1000000) : isPt x y = true := by simp [isPt, inB]; omega
set_option maxRecDepth 100000 in
set_option maxHeartbeats 4000000 in
theorem spec_l01DrawPoint_b (g : Nat) (w : World) (h : Src w g) : Calls Tryz.prog 74 #[.pointer (some ⟨g, 0, none⟩)] w (PtB w g) := by
 have ng := Src.lt h
 have nz0 : ¬ w.heap.size = g := by omega
 have nz1 : ¬ g = w.heap.size := by omega
 go_enter Tryz.func74, Tryz.ntmps74
 go_wp2_with fail; (with_reducible refine (spec_l01Next g _ _ swz (by decide)).mono ?_); rintro e w1 ⟨⟨x1, rfl, hx1⟩, hg1, hs1⟩; have hc1 := gcell hg1; have hf1 := gfroz hg1; have lg1 := Src.lt hs1; have nga1 : ¬ w1.heap.size = g := (by omega); have ngb1 : ¬ g = w1.heap.size := (by omega); have hzs1 := hg1.size; (try simp at hzs1); have zx1_0 : w.heap.size < w1.heap.size := (by first | omega | (simp at hzs1; omega)); have zy1_0 : w.heap.size < w1.heap.size + 1 := (by omega); have zw1_0 : ¬ w1.heap.size = w.heap.size := (by omega); have zv1_0 : ¬ w.heap.size = w1.heap.size := (by omega); have zu1_0 : w.heap.size < w1.heap.size + 1 + 1 := (by omega); have zt1_0 : ¬ w1.heap.size + 1 = w.heap.size := (by omega); have zr1_0 : ¬ w.heap.size = w1.heap.size + 1 := (by omega)
 clear hx1
 by_cases k1 : x1 = 0
 ·subst k1
  have hgE0 : w.grownBy w1 (some g) := gwz
  go_upto_region 2 with fail
  have HwE : World.grownBy w w1 (some g) := gwz
  refine wp_region_held_drew (S := fun W => World.grownBy w W (some g) ∧ Src W g) (by kernel_rfl) ⟨gr_drew HwE, by assumption⟩ (fun hHeld => ?_)
  refine tkD 1 (some 8) rfl ?_; simp only [pz]
  refine tkD 6 (some 13) rfl ?_; simp only [pz]
  refine wpAnyH_inv (fuel := 1) [0, 2, 3, 4, 5, 7, 8, 9, 10] [7, 9, 10, 11, 12, 14, 15, 16, 17] (fun u L W => (World.grownBy w1 W (some g) ∧ Src W g) ∧ (L 0 → FRowB g 3 1000000 (u 7) W) ∧ (L 2 → FNat 3 (u 9)) ∧ (L 3 → FAddrB g 1000000 (u 10) W) ∧ (L 4 → FIB 1000000 (u 11)) ∧ (L 5 → FRowB g 3 1000000 (u 12) W) ∧ (L 7 → FNat 3 (u 14)) ∧ (L 8 → FAddrB g 1000000 (u 15) W) ∧ (L 9 → FIB 1000000 (u 16)) ∧ (L 10 → FPt (u 17) W) ∧ True) (by decide) (by kernel_rfl) (fun u L W hJ => ⟨HwE.trans hJ.1.1, hJ.1.2⟩) (fun u L hL => ⟨⟨gr_drew (World.grownBy.refl _ _), by assumption⟩, fun k => absurd k (hL 0 (by decide)), fun k => absurd k (hL 2 (by decide)), fun k => absurd k (hL 3 (by decide)), fun k => absurd k (hL 4 (by decide)), fun k => absurd k (hL 5 (by decide)), fun k => absurd k (hL 7 (by decide)), fun k => absurd k (hL 8 (by decide)), fun k => absurd k (hL 9 (by decide)), fun k => absurd k (hL 10 (by decide)), trivial⟩) ?_ ?_
  ·refine sc1 7 ?_ ?_
   rotate_left
   refine sc1 9 ?_ ?_
   rotate_left
   refine sc1 10 ?_ ?_
   rotate_left
   refine sc1 11 ?_ ?_
   rotate_left
   refine sc1 12 ?_ ?_
   rotate_left
   refine sc1 14 ?_ ?_
   rotate_left
   refine sc1 15 ?_ ?_
   rotate_left
   refine sc1 16 ?_ ?_
   rotate_left
   refine sc1 17 ?_ ?_
   rotate_left
   exact StepsH.nil
   ·intro u L W hn hd hJ
    obtain ⟨hk, f7, f9, f10, f11, f12, f14, f15, f16, f17, _⟩ := hJ
    have hnd := hk.2
    intro K hK
    simp only [puts, pz]
    go_simp
    all_goals (try go_wp2_with fail)
    all_goals
     apply Shut.go3 (W := W) (g := g) hK
     ·simp only [puts, pz]; rfl
     ·exact gbz
     ·exact sbz
     ·intro hg hs; exact ⟨Dr.step hk hg hs, fun _ => by rw [upd_same]; exact FRowB.new (Src.lt hnd) _ _ (fun j hj => by rcases (show j = 0 ∨ j = 1 ∨ j = 2 by omega) with rfl | rfl | rfl <;> exact ⟨_, rfl, by decide, by decide⟩), unz f9, unz fun h => FAddrB.later hg (f10 h), unz f11, unz fun h => FRowB.later hg (f12 h), unz f14, unz fun h => FAddrB.later hg (f15 h), unz f16, unz fun h => FPt.later hg (f17 h), trivial⟩
   ·intro u L W hn hd hJ
    obtain ⟨hk, f7, f9, f10, f11, f12, f14, f15, f16, f17, _⟩ := hJ
    have hnd := hk.2
    intro K hK
    simp only [puts, pz]
    go_simp; (go_at_call 14; (with_reducible refine (spec_l01NextN g 3 3 _ hnd (by decide) (by decide) (by decide)).mono ?_); rintro e w9 ⟨⟨xx, rfl, hxx⟩, hg, hs⟩)
    all_goals (try go_wp2_with fail)
    all_goals
     apply Shut.go3 (W := W) (g := g) hK
     ·simp only [puts, pz]; rfl
     ·exact gbz
     ·exact sbz
     ·intro hg hs; exact ⟨Dr.step hk hg hs, unz fun h => FRowB.later hg (f7 h), fun _ => by rw [upd_same]; exact ⟨_, rfl, by first | assumption | omega⟩, unz fun h => FAddrB.later hg (f10 h), unz f11, unz fun h => FRowB.later hg (f12 h), unz f14, unz fun h => FAddrB.later hg (f15 h), unz f16, unz fun h => FPt.later hg (f17 h), trivial⟩
   ·intro u L W hn hd hJ
    obtain ⟨hk, f7, f9, f10, f11, f12, f14, f15, f16, f17, _⟩ := hJ
    have hnd := hk.2
    obtain ⟨b7, e7, nb7, lb7, cb7⟩ := f7 (hd 0 (by kernel_rfl))
    obtain ⟨x9, e9, l9⟩ := f9 (hd 2 (by kernel_rfl))
    have il9 : (0 : Int) ≤ (x9 : Int) := (by omega); have iu9 : (x9 : Int) < (3 : Int) := (by omega)
    intro K hK
    simp only [puts, pz, e7, e9]
    go_simp
    all_goals (try go_wp2_with fail)
    all_goals
     apply Shut.go3 (W := W) (g := g) hK
     ·simp only [puts, pz, e7, e9]; rfl
     ·exact gbz
     ·exact sbz
     ·intro hg hs; exact ⟨Dr.step hk hg hs, unz fun h => FRowB.later hg (f7 h), unz f9, fun _ => by rw [upd_same]; exact FAddrB.new nb7 lb7 (cb7 _ (by omega)), unz f11, unz fun h => FRowB.later hg (f12 h), unz f14, unz fun h => FAddrB.later hg (f15 h), unz f16, unz fun h => FPt.later hg (f17 h), trivial⟩
   ·intro u L W hn hd hJ
    obtain ⟨hk, f7, f9, f10, f11, f12, f14, f15, f16, f17, _⟩ := hJ
    have hnd := hk.2
    obtain ⟨b10, o10, e10, nb10, lb10, z10, cz10, hz10⟩ := f10 (hd 3 (by kernel_rfl))
    intro K hK
    simp only [puts, pz, e10]
    go_simp
    all_goals (try go_wp2_with fail)
    all_goals
     apply Shut.go3 (W := W) (g := g) hK
     ·simp only [puts, pz, e10]; rfl
     ·exact gbz
     ·exact sbz
     ·intro hg hs; exact ⟨Dr.step hk hg hs, unz fun h => FRowB.later hg (f7 h), unz f9, unz fun h => FAddrB.later hg (f10 h), fun _ => by rw [upd_same]; exact ⟨_, rfl, hz10⟩, unz fun h => FRowB.later hg (f12 h), unz f14, unz fun h => FAddrB.later hg (f15 h), unz f16, unz fun h => FPt.later hg (f17 h), trivial⟩
   ·intro u L W hn hd hJ
    obtain ⟨hk, f7, f9, f10, f11, f12, f14, f15, f16, f17, _⟩ := hJ
    have hnd := hk.2
    intro K hK
    simp only [puts, pz]
    go_simp
    all_goals (try go_wp2_with fail)
    all_goals
     apply Shut.go3 (W := W) (g := g) hK
     ·simp only [puts, pz]; rfl
     ·exact gbz
     ·exact sbz
     ·intro hg hs; exact ⟨Dr.step hk hg hs, unz fun h => FRowB.later hg (f7 h), unz f9, unz fun h => FAddrB.later hg (f10 h), unz f11, fun _ => by rw [upd_same]; exact FRowB.new (Src.lt hnd) _ _ (fun j hj => by rcases (show j = 0 ∨ j = 1 ∨ j = 2 by omega) with rfl | rfl | rfl <;> exact ⟨_, rfl, by decide, by decide⟩), unz f14, unz fun h => FAddrB.later hg (f15 h), unz f16, unz fun h => FPt.later hg (f17 h), trivial⟩
   ·intro u L W hn hd hJ
    obtain ⟨hk, f7, f9, f10, f11, f12, f14, f15, f16, f17, _⟩ := hJ
    have hnd := hk.2
    intro K hK
    simp only [puts, pz]
    go_simp; (go_at_call 14; (with_reducible refine (spec_l01NextN g 3 3 _ hnd (by decide) (by decide) (by decide)).mono ?_); rintro e w9 ⟨⟨xx, rfl, hxx⟩, hg, hs⟩)
    all_goals (try go_wp2_with fail)
    all_goals
     apply Shut.go3 (W := W) (g := g) hK
     ·simp only [puts, pz]; rfl
     ·exact gbz
     ·exact sbz
     ·intro hg hs; exact ⟨Dr.step hk hg hs, unz fun h => FRowB.later hg (f7 h), unz f9, unz fun h => FAddrB.later hg (f10 h), unz f11, unz fun h => FRowB.later hg (f12 h), fun _ => by rw [upd_same]; exact ⟨_, rfl, by first | assumption | omega⟩, unz fun h => FAddrB.later hg (f15 h), unz f16, unz fun h => FPt.later hg (f17 h), trivial⟩
   ·intro u L W hn hd hJ
    obtain ⟨hk, f7, f9, f10, f11, f12, f14, f15, f16, f17, _⟩ := hJ
    have hnd := hk.2
    obtain ⟨b12, e12, nb12, lb12, cb12⟩ := f12 (hd 5 (by kernel_rfl))
    obtain ⟨x14, e14, l14⟩ := f14 (hd 7 (by kernel_rfl))
    have il14 : (0 : Int) ≤ (x14 : Int) := (by omega); have iu14 : (x14 : Int) < (3 : Int) := (by omega)
    intro K hK
    simp only [puts, pz, e12, e14]
    go_simp
    all_goals (try go_wp2_with fail)
    all_goals
     apply Shut.go3 (W := W) (g := g) hK
     ·simp only [puts, pz, e12, e14]; rfl
     ·exact gbz
     ·exact sbz
     ·intro hg hs; exact ⟨Dr.step hk hg hs, unz fun h => FRowB.later hg (f7 h), unz f9, unz fun h => FAddrB.later hg (f10 h), unz f11, unz fun h => FRowB.later hg (f12 h), unz f14, fun _ => by rw [upd_same]; exact FAddrB.new nb12 lb12 (cb12 _ (by omega)), unz f16, unz fun h => FPt.later hg (f17 h), trivial⟩
   ·intro u L W hn hd hJ
    obtain ⟨hk, f7, f9, f10, f11, f12, f14, f15, f16, f17, _⟩ := hJ
    have hnd := hk.2
    obtain ⟨b15, o15, e15, nb15, lb15, z15, cz15, hz15⟩ := f15 (hd 8 (by kernel_rfl))
    intro K hK
    simp only [puts, pz, e15]
    go_simp
    all_goals (try go_wp2_with fail)
    all_goals
     apply Shut.go3 (W := W) (g := g) hK
     ·simp only [puts, pz, e15]; rfl
     ·exact gbz
     ·exact sbz
     ·intro hg hs; exact ⟨Dr.step hk hg hs, unz fun h => FRowB.later hg (f7 h), unz f9, unz fun h => FAddrB.later hg (f10 h), unz f11, unz fun h => FRowB.later hg (f12 h), unz f14, unz fun h => FAddrB.later hg (f15 h), fun _ => by rw [upd_same]; exact ⟨_, rfl, hz15⟩, unz fun h => FPt.later hg (f17 h), trivial⟩
   ·intro u L W hn hd hJ
    obtain ⟨hk, f7, f9, f10, f11, f12, f14, f15, f16, f17, _⟩ := hJ
    have hnd := hk.2
    obtain ⟨x11, e11, hx11⟩ := f11 (hd 4 (by kernel_rfl))
    obtain ⟨x16, e16, hx16⟩ := f16 (hd 9 (by kernel_rfl))
    intro K hK
    simp only [puts, pz, e11, e16]
    go_simp
    all_goals (try go_wp2_with fail)
    all_goals
     apply Shut.go3 (W := W) (g := g) hK
     ·simp only [puts, pz, e11, e16]; rfl
     ·exact gbz
     ·exact sbz
     ·intro hg hs; exact ⟨Dr.step hk hg hs, unz fun h => FRowB.later hg (f7 h), unz f9, unz fun h => FAddrB.later hg (f10 h), unz f11, unz fun h => FRowB.later hg (f12 h), unz f14, unz fun h => FAddrB.later hg (f15 h), unz f16, fun _ => by rw [upd_same]; exact ⟨_, _, rfl, isPt_of hx11.1 hx11.2 hx16.1 hx16.2⟩, trivial⟩
  ·intro u L W hJ hL
   obtain ⟨hk, f7, f9, f10, f11, f12, f14, f15, f16, f17, _⟩ := hJ
   obtain ⟨b7, e7, nb7, lb7, cb7⟩ := f7 (hL 0 (by kernel_rfl))
   obtain ⟨x9, e9, l9⟩ := f9 (hL 2 (by kernel_rfl))
   obtain ⟨b10, o10, e10, nb10, lb10, z10, cz10, hz10⟩ := f10 (hL 3 (by kernel_rfl))
   obtain ⟨x11, e11, hx11⟩ := f11 (hL 4 (by kernel_rfl))
   obtain ⟨b12, e12, nb12, lb12, cb12⟩ := f12 (hL 5 (by kernel_rfl))
   obtain ⟨x14, e14, l14⟩ := f14 (hL 7 (by kernel_rfl))
   obtain ⟨b15, o15, e15, nb15, lb15, z15, cz15, hz15⟩ := f15 (hL 8 (by kernel_rfl))
   obtain ⟨x16, e16, hx16⟩ := f16 (hL 9 (by kernel_rfl))
   obtain ⟨px17, py17, e17, hp17⟩ := f17 (hL 10 (by kernel_rfl))
   clear hHeld; have hcW := gcell hk.1; have hfW := gfroz hk.1; have hHeld := And.intro (HwE.trans hk.1) hk.2; have lW := hk.1.size
   clear f7
   clear f9
   clear f10
   clear f11
   clear f12
   clear f14
   clear f15
   clear f16
   clear f17
   simp only [puts, pz, setAll, Array.replicate, e7, e9, e10, e11, e12, e14, e15, e16, e17]
   refine rd1 11 none rfl (fun K hK => ?_)
   go_simp
   all_goals (try go_wp2_with fail)
   refine hK.out _ _ ?_ (fun hH2 => ?_)
   ·have hHg := hHeld.1; have hHs := hHeld.2; exact ⟨gwz, swz⟩
   clear hK K hHeld; (have hHeld := hH2); clear hH2; (try simp only [Act.put])
   refine wpAnyH_done (by kernel_rfl) ?_ _; (try simp only [pz])
   obtain ⟨hgE, hsE⟩ := hHeld
   go_wp2
   simp [bodyPost, results, Tryz.results74, go_sem, *]
   exact ⟨⟨_, _, rfl, hp17⟩, gwz, swz⟩
 ·have k2 : (x1 == 0) = false := beq_eq_false_iff_ne.2 k1
  go_wp2_with fail; (with_reducible refine (spec_l01NextN g 3 3 _ swz (by decide) (by decide) (by decide)).mono ?_); rintro e w2 ⟨⟨x2, rfl, hx2⟩, hg2, hs2⟩; have hc2 := gcell hg2; have hf2 := gfroz hg2; have lg2 := Src.lt hs2; have nga2 : ¬ w2.heap.size = g := (by omega); have ngb2 : ¬ g = w2.heap.size := (by omega); have hzs2 := hg2.size; (try simp at hzs2); have zx2_0 : w.heap.size < w2.heap.size := (by first | omega | (simp at hzs2; omega)); have zy2_0 : w.heap.size < w2.heap.size + 1 := (by omega); have zw2_0 : ¬ w2.heap.size = w.heap.size := (by omega); have zv2_0 : ¬ w.heap.size = w2.heap.size := (by omega); have zu2_0 : w.heap.size < w2.heap.size + 1 + 1 := (by omega); have zt2_0 : ¬ w2.heap.size + 1 = w.heap.size := (by omega); have zr2_0 : ¬ w.heap.size = w2.heap.size + 1 := (by omega); have zx2_1 : w1.heap.size < w2.heap.size := (by first | omega | (simp at hzs2; omega)); have zy2_1 : w1.heap.size < w2.heap.size + 1 := (by omega); have zw2_1 : ¬ w2.heap.size = w1.heap.size := (by omega); have zv2_1 : ¬ w1.heap.size = w2.heap.size := (by omega); have zu2_1 : w1.heap.size < w2.heap.size + 1 + 1 := (by omega); have zt2_1 : ¬ w2.heap.size + 1 = w1.heap.size := (by omega); have zr2_1 : ¬ w1.heap.size = w2.heap.size + 1 := (by omega)
  have ng1 : ¬ w1.heap.size = g := by omega
  rcases (by omega : x2 = 0 ∨ x2 = 1 ∨ x2 = 2) with rfl | rfl | rfl
  all_goals
   go_wp2_with fail; (with_reducible refine (spec_l01Next g _ _ swz (by decide)).mono ?_); rintro e w3 ⟨⟨x3, rfl, hx3⟩, hg3, hs3⟩; have hc3 := gcell hg3; have hf3 := gfroz hg3; have lg3 := Src.lt hs3; have nga3 : ¬ w3.heap.size = g := (by omega); have ngb3 : ¬ g = w3.heap.size := (by omega); have hzs3 := hg3.size; (try simp at hzs3); have zx3_0 : w.heap.size < w3.heap.size := (by first | omega | (simp at hzs3; omega)); have zy3_0 : w.heap.size < w3.heap.size + 1 := (by omega); have zw3_0 : ¬ w3.heap.size = w.heap.size := (by omega); have zv3_0 : ¬ w.heap.size = w3.heap.size := (by omega); have zu3_0 : w.heap.size < w3.heap.size + 1 + 1 := (by omega); have zt3_0 : ¬ w3.heap.size + 1 = w.heap.size := (by omega); have zr3_0 : ¬ w.heap.size = w3.heap.size + 1 := (by omega)
   obtain ⟨p1, p2⟩ := hx3 (by decide)
   clear hx3
   go_wp2_with fail; (with_reducible refine (spec_l01Next g _ _ swz (by decide)).mono ?_); rintro e w4 ⟨⟨x4, rfl, hx4⟩, hg4, hs4⟩; have hc4 := gcell hg4; have hf4 := gfroz hg4; have lg4 := Src.lt hs4; have nga4 : ¬ w4.heap.size = g := (by omega); have ngb4 : ¬ g = w4.heap.size := (by omega); have hzs4 := hg4.size; (try simp at hzs4); have zx4_0 : w.heap.size < w4.heap.size := (by first | omega | (simp at hzs4; omega)); have zy4_0 : w.heap.size < w4.heap.size + 1 := (by omega); have zw4_0 : ¬ w4.heap.size = w.heap.size := (by omega); have zv4_0 : ¬ w.heap.size = w4.heap.size := (by omega); have zu4_0 : w.heap.size < w4.heap.size + 1 + 1 := (by omega); have zt4_0 : ¬ w4.heap.size + 1 = w.heap.size := (by omega); have zr4_0 : ¬ w.heap.size = w4.heap.size + 1 := (by omega)
   obtain ⟨p3, p4⟩ := hx4 (by decide)
   clear hx4
   go_wp2
   simp [bodyPost, results, Tryz.results74, go_sem, *]
   exact ⟨⟨_, _, rfl, isPt_of (by omega) (by omega) (by omega) (by omega)⟩, gwz, swz⟩
end Go.Proofs.YthlnpcneicmblaaGreatDoor
namespace Go.Proofs.YthlnpcneicmblaaGreatDoor
open Go.RowKit

theorem isSg_ofP {a b c d : Int} (h1 : isPt a b = true) (h2 : isPt c d = true) (h : ¬ (a = c ∧ b = d)) : isSg a b c d = true := by
 unfold isSg
 rw [h1, h2]
 simp only [Bool.and_self, Bool.true_and, Bool.not_eq_true']
 by_cases e : a = c
 ·rw [beq_eq_false_iff_ne.2 (fun k => h ⟨e, k⟩), Bool.and_false]
 ·rw [beq_eq_false_iff_ne.2 e, Bool.false_and]
/-- What a draw of a segment returns. -/
def SgB (w : World) (g : Nat) (e : Ending) (w' : World) : Prop := (∃ a b c d : Int, e = .returned (.agg #[.int .i64 a, .int .i64 b, .int .i64 c, .int .i64 d]) ∧ isSg a b c d = true) ∧ w.grownBy w' (some g) ∧ Src w' g
set_option maxRecDepth 100000 in
set_option maxHeartbeats 4000000 in
theorem spec_l02Draw_b (g : Nat) (w : World) (h : Src w g) : Calls Tryz.prog 103 #[.pointer (some ⟨g, 0, none⟩)] w (SgB w g) := by
 have ng := Src.lt h
 have nz0 : ¬ w.heap.size = g := by omega
 have nz1 : ¬ g = w.heap.size := by omega
 go_enter Tryz.func103, Tryz.ntmps103
 go_wp2_with fail; (with_reducible refine (spec_l01DrawPoint_b g _ swz).mono ?_); rintro e w1 ⟨⟨ax, ay, rfl, hp⟩, hg1, hs1⟩; have hc1 := gcell hg1; have hf1 := gfroz hg1; have lg1 := Src.lt hs1; have nga1 : ¬ w1.heap.size = g := (by omega); have ngb1 : ¬ g = w1.heap.size := (by omega); have hzs1 := hg1.size; (try simp at hzs1); have zx1_0 : w.heap.size < w1.heap.size := (by first | omega | (simp at hzs1; omega)); have zy1_0 : w.heap.size < w1.heap.size + 1 := (by omega); have zw1_0 : ¬ w1.heap.size = w.heap.size := (by omega); have zv1_0 : ¬ w.heap.size = w1.heap.size := (by omega); have zu1_0 : w.heap.size < w1.heap.size + 1 + 1 := (by omega); have zt1_0 : ¬ w1.heap.size + 1 = w.heap.size := (by omega); have zr1_0 : ¬ w.heap.size = w1.heap.size + 1 := (by omega)
 go_wp2_with fail; (with_reducible refine (spec_l01DrawPoint_b g _ swz).mono ?_); rintro e w2 ⟨⟨bx, bY, rfl, hq⟩, hg2, hs2⟩; have hc2 := gcell hg2; have hf2 := gfroz hg2; have lg2 := Src.lt hs2; have nga2 : ¬ w2.heap.size = g := (by omega); have ngb2 : ¬ g = w2.heap.size := (by omega); have hzs2 := hg2.size; (try simp at hzs2); have zx2_0 : w.heap.size < w2.heap.size := (by first | omega | (simp at hzs2; omega)); have zy2_0 : w.heap.size < w2.heap.size + 1 := (by omega); have zw2_0 : ¬ w2.heap.size = w.heap.size := (by omega); have zv2_0 : ¬ w.heap.size = w2.heap.size := (by omega); have zu2_0 : w.heap.size < w2.heap.size + 1 + 1 := (by omega); have zt2_0 : ¬ w2.heap.size + 1 = w.heap.size := (by omega); have zr2_0 : ¬ w.heap.size = w2.heap.size + 1 := (by omega)
 have ng2 : ¬ w2.heap.size + 1 = g := by omega
 obtain ⟨p1, p2, p3, p4⟩ := isPt_t hp
 by_cases hE : ax = bx ∧ ay = bY
 ·obtain ⟨rfl, rfl⟩ := hE
  have e1 : IntKind.i64.wrap (ay - 1) = ay - 1 := IntWalk.i64_in _ (by omega)
  have e2 : IntKind.i64.wrap (ay + 1) = ay + 1 := IntWalk.i64_in _ (by omega)
  by_cases hy : ay < 0
  ·have hd := decide_eq_true hy
   go_wp2
   simp [bodyPost, results, Tryz.results103, go_sem, *]
   exact ⟨⟨_, _, _, _, rfl, isSg_ofP hp (isPt_of (by omega) (by omega) (by omega) (by omega)) (by omega)⟩, gwz, swz⟩
  ·have hd := decide_eq_false hy
   go_wp2
   simp [bodyPost, results, Tryz.results103, go_sem, *]
   exact ⟨⟨_, _, _, _, rfl, isSg_ofP hp (isPt_of (by omega) (by omega) (by omega) (by omega)) (by omega)⟩, gwz, swz⟩
 ·have hd : (ax == bx && ay == bY) = false := by
   by_cases e : ax = bx
   ·rw [beq_eq_false_iff_ne.2 (fun k => hE ⟨e, k⟩), Bool.and_false]
   ·rw [beq_eq_false_iff_ne.2 e, Bool.false_and]
  have hS := isSg_ofP hp hq hE
  go_wp2
  all_goals
   simp [bodyPost, results, Tryz.results103, go_sem, *]
   exact ⟨⟨_, _, _, _, rfl, by first | exact hS | (rw [show ax = bx from by assumption] at hS; exact hS)⟩, gwz, swz⟩
set_option maxRecDepth 100000 in
set_option maxHeartbeats 4000000 in
theorem spec_l04DrawLine_b (g : Nat) (w : World) (h : Src w g) : Calls Tryz.prog 73 #[.pointer (some ⟨g, 0, none⟩)] w (SgB w g) := by
 have ng := Src.lt h
 have nz0 : ¬ w.heap.size = g := by omega
 have nz1 : ¬ g = w.heap.size := by omega
 go_enter Tryz.func73, Tryz.ntmps73
 go_wp2_with fail; (with_reducible refine (spec_l02Draw_b g _ swz).mono ?_); rintro e w1 ⟨⟨a, b, c, d, rfl, hs⟩, hg1, hs1⟩; have hc1 := gcell hg1; have hf1 := gfroz hg1; have lg1 := Src.lt hs1; have nga1 : ¬ w1.heap.size = g := (by omega); have ngb1 : ¬ g = w1.heap.size := (by omega); have hzs1 := hg1.size; (try simp at hzs1); have zx1_0 : w.heap.size < w1.heap.size := (by first | omega | (simp at hzs1; omega)); have zy1_0 : w.heap.size < w1.heap.size + 1 := (by omega); have zw1_0 : ¬ w1.heap.size = w.heap.size := (by omega); have zv1_0 : ¬ w.heap.size = w1.heap.size := (by omega); have zu1_0 : w.heap.size < w1.heap.size + 1 + 1 := (by omega); have zt1_0 : ¬ w1.heap.size + 1 = w.heap.size := (by omega); have zr1_0 : ¬ w.heap.size = w1.heap.size + 1 := (by omega)
 go_wp2
 simp [bodyPost, results, Tryz.results73, go_sem, *]
 exact ⟨⟨_, _, _, _, rfl, hs⟩, gwz, swz⟩
end Go.Proofs.YthlnpcneicmblaaGreatDoor
