/- Walks: a time on a track and a span are drawn. -/
import Derived.Test.YtgcdgdnmcdffoaaGreatDoorDb
import Derived.Test.YtgcdgdnmcdffoaaGreatDoorIv
namespace Go.Proofs.YtgcdgdnmcdffoaaGreatDoor
open Go.RowKit

def IntC (w : World) (g : Nat) (e : Ending) (w' : World) : Prop := (∃ x : Int, e = .returned (.int .i64 x)) ∧ w.grownBy w' (some g) ∧ Src w' g
def FAt (b n : Nat) (v : Value) : Prop := ∃ x : Nat, v = .pointer (some ⟨b, x * 3, none⟩) ∧ x < n
theorem own_at {w W : World} {b n g : Nat} {L : List Int} (h : ∀ j, j < n * 3 → w.cell? ⟨b, j, none⟩ = some (.int .i64 (L[j]?.getD 0)) ∧ w.frozen? ⟨b, j, none⟩ = false) (hg : w.grownBy W (some g)) (hb : b < w.heap.size) (hn : b ≠ g) {x : Nat} (hx : x < n) :
 ∃ a1 a2 a3 : Int, W.cell? ⟨b, x * 3, none⟩ = some (.int .i64 a1) ∧ W.cell? ⟨b, x * 3 + 1, none⟩ = some (.int .i64 a2) ∧ W.cell? ⟨b, x * 3 + 2, none⟩ = some (.int .i64 a3) :=
 ⟨_, _, _, (gcell hg b _ hb hn).trans (h (x * 3) (by omega)).1, (gcell hg b _ hb hn).trans (h (x * 3 + 1) (by omega)).1, (gcell hg b _ hb hn).trans (h (x * 3 + 2) (by omega)).1⟩
set_option maxRecDepth 100000 in
set_option maxHeartbeats 8000000 in
theorem spec_l03DrawTime (g B n cap : Nat) (so : Option Addr) (Lf : List Int) (w : World) (h : Src w g) (ho : OwnI 3 2000000000 w B Lf n so) (hn : n ≤ 41) (hB : g < B) : Calls Tryz.prog 39 #[.pointer (some ⟨g, 0, none⟩), .agg #[.slice so n cap]] w (IntC w g) := by
 have ng := Src.lt h
 have nz0 : ¬ w.heap.size = g := by omega
 have nz1 : ¬ g = w.heap.size := by omega
 by_cases hn2 : n < 2
 ·have hi : (n : Int) < 2 := by omega
  clear ho
  go_enter Tryz.func39, Tryz.ntmps39
  go_wp2_with fail; (with_reducible refine (spec_l01Next g _ _ swz (by decide)).mono ?_); rintro e w1 ⟨⟨x1, rfl, hx1⟩, hg1, hs1⟩; have hc1 := gcell hg1; have hf1 := gfroz hg1; have lg1 := Src.lt hs1; have nga1 : ¬ w1.heap.size = g := (by omega); have ngb1 : ¬ g = w1.heap.size := (by omega); have hzs1 := hg1.size; (try simp at hzs1); have zx1_0 : w.heap.size < w1.heap.size := (by first | omega | (simp at hzs1; omega)); have zy1_0 : w.heap.size < w1.heap.size + 1 := (by omega); have zw1_0 : ¬ w1.heap.size = w.heap.size := (by omega); have zv1_0 : ¬ w.heap.size = w1.heap.size := (by omega); have zu1_0 : w.heap.size < w1.heap.size + 1 + 1 := (by omega); have zt1_0 : ¬ w1.heap.size + 1 = w.heap.size := (by omega); have zr1_0 : ¬ w.heap.size = w1.heap.size + 1 := (by omega)
  go_wp2
  go_ret
  exact ⟨⟨_, rfl⟩, gwz, swz⟩
 have hi : ¬ (n : Int) < 2 := by omega
 obtain ⟨b, rfl, hbB, hbl, hbc⟩ := ho.blk (by omega)
 have nb0 : ¬ b = w.heap.size := by omega
 have nb1 : ¬ w.heap.size = b := by omega
 have nb4 : ¬ b = g := by omega
 have hM0 := hide (ho.2.1 0 (by omega))
 obtain ⟨m, rfl⟩ : ∃ m, n = m + 1 := ⟨n - 1, by omega⟩
 have hMm := hide (ho.2.1 m (by omega))
 have hi2 : ¬ (m : Int) + 1 < 2 := by omega
 clear ho
 have Hbc := hide hbc
 clear hbc
 go_enter Tryz.func39, Tryz.ntmps39
 go_wp2_with fail; (with_reducible refine (spec_l01Next g _ _ swz (by decide)).mono ?_); rintro e w1 ⟨⟨x1, rfl, hx1⟩, hg1, hs1⟩; have hc1 := gcell hg1; have hf1 := gfroz hg1; have lg1 := Src.lt hs1; have nga1 : ¬ w1.heap.size = g := (by omega); have ngb1 : ¬ g = w1.heap.size := (by omega); have hzs1 := hg1.size; (try simp at hzs1); have zx1_0 : w.heap.size < w1.heap.size := (by first | omega | (simp at hzs1; omega)); have zy1_0 : w.heap.size < w1.heap.size + 1 := (by omega); have zw1_0 : ¬ w1.heap.size = w.heap.size := (by omega); have zv1_0 : ¬ w.heap.size = w1.heap.size := (by omega); have zu1_0 : w.heap.size < w1.heap.size + 1 + 1 := (by omega); have zt1_0 : ¬ w1.heap.size + 1 = w.heap.size := (by omega); have zr1_0 : ¬ w.heap.size = w1.heap.size + 1 := (by omega); have zx1_1 : b < w1.heap.size := (by first | omega | (simp at hzs1; omega)); have zy1_1 : b < w1.heap.size + 1 := (by omega); have zw1_1 : ¬ w1.heap.size = b := (by omega); have zv1_1 : ¬ b = w1.heap.size := (by omega); have zu1_1 : b < w1.heap.size + 1 + 1 := (by omega); have zt1_1 : ¬ w1.heap.size + 1 = b := (by omega); have zr1_1 : ¬ b = w1.heap.size + 1 := (by omega)
 clear hx1
 by_cases k1 : x1 = 0
 ·subst k1
  go_wp2_with fail; (with_reducible refine (spec_l01Next g _ _ swz (by decide)).mono ?_); rintro e w2 ⟨⟨x2, rfl, hx2⟩, hg2, hs2⟩; have hc2 := gcell hg2; have hf2 := gfroz hg2; have lg2 := Src.lt hs2; have nga2 : ¬ w2.heap.size = g := (by omega); have ngb2 : ¬ g = w2.heap.size := (by omega); have hzs2 := hg2.size; (try simp at hzs2); have zx2_0 : w.heap.size < w2.heap.size := (by first | omega | (simp at hzs2; omega)); have zy2_0 : w.heap.size < w2.heap.size + 1 := (by omega); have zw2_0 : ¬ w2.heap.size = w.heap.size := (by omega); have zv2_0 : ¬ w.heap.size = w2.heap.size := (by omega); have zu2_0 : w.heap.size < w2.heap.size + 1 + 1 := (by omega); have zt2_0 : ¬ w2.heap.size + 1 = w.heap.size := (by omega); have zr2_0 : ¬ w.heap.size = w2.heap.size + 1 := (by omega)
  go_wp2
  go_ret
  exact ⟨⟨_, rfl⟩, gwz, swz⟩
 have k2 : (x1 == 0) = false := beq_eq_false_iff_ne.2 k1
 have a0 : w1.cell? ⟨w.heap.size, 0, none⟩ = some (.slice (some ⟨b, 0, none⟩) (m + 1) cap) := by go_simp
 have Hb1 := hide (show ∀ j, j < (m + 1) * 3 → w1.cell? ⟨b, j, none⟩ = some (.int .i64 (Lf[j]?.getD 0)) ∧ w1.frozen? ⟨b, j, none⟩ = false from fun j hj => ⟨((hc1 b j (by simp; omega) nb4).trans (World.cell?_alloc_past _ _ _ hbl)).trans (Hbc.out j hj).1, ((hf1 b j (by simp; omega) nb4).trans (World.frozen?_alloc_past _ _ _ hbl)).trans (Hbc.out j hj).2⟩)
 have hb1 : b < w1.heap.size := by omega
 have G1 := hide (show w.grownBy w1 (some g) from gr_step (gr_alloc (World.grownBy.refl _ _) _) hg1)
 clear hc1 hf1 hg1 Hbc
 have hg1 := G1.out
 go_upto_region 3 with fail
 have HwE : World.grownBy w w1 (some g) := gwz
 have HcE0 : World.cell? w1 ⟨w.heap.size, 0, none⟩ = some (.slice (some ⟨b, 0, none⟩) (m + 1) cap) := (by go_simp)
 refine wp_region_held_drew (S := fun W => W.cell? ⟨w.heap.size, 0, none⟩ = some (.slice (some ⟨b, 0, none⟩) (m + 1) cap) ∧ World.grownBy w W (some g) ∧ Src W g) (by kernel_rfl) ⟨HcE0, gr_drew HwE, by assumption⟩ (fun hHeld => ?_)
 refine tkD 0 (some 20) rfl ?_; simp only [pz]
 refine tkD 1 (some 21) rfl ?_; simp only [pz]
 refine tkD 2 (some 22) rfl ?_; simp only [pz]
 refine tkD 3 (some 23) rfl ?_; simp only [pz]
 refine tkD 4 (some 24) rfl ?_; simp only [pz]
 refine tkD 5 (some 25) rfl ?_; simp only [pz]
 refine wpAnyH_inv (fuel := 1) [6, 7, 8, 9] [26, 27, 28, 5] (fun u L W => (World.grownBy w1 W (some g) ∧ Src W g) ∧ (L 6 → FNat (m+1) (u 26)) ∧ (L 7 → FAt b (m+1) (u 27)) ∧ (L 8 → FAgg3 (u 28)) ∧ (L 9 → FBox g w1 3 (u 5) W) ∧ True) (by decide) (by kernel_rfl) (fun u L W hJ => ⟨cell_grown hJ.1.1 (by omega) HcE0, HwE.trans hJ.1.1, hJ.1.2⟩) (fun u L hL => ⟨⟨gr_drew (World.grownBy.refl _ _), by assumption⟩, fun k => absurd k (hL 6 (by decide)), fun k => absurd k (hL 7 (by decide)), fun k => absurd k (hL 8 (by decide)), fun k => absurd k (hL 9 (by decide)), trivial⟩) ?_ ?_
 ·refine sc1 26 ?_ ?_
  rotate_left
  refine sc1 27 ?_ ?_
  rotate_left
  refine sc1 28 ?_ ?_
  rotate_left
  refine sc1 5 ?_ ?_
  rotate_left
  exact StepsH.nil
  ·intro u L W hn hd hJ
   obtain ⟨hk, f26, f27, f28, f5, _⟩ := hJ
   have hnd := hk.2
   intro K hK
   simp only [puts, pz]
   go_simp; (go_at_call 59; (with_reducible refine (spec_l01NextN g (m + 1) _ _ hnd (by simp) (by omega) (by omega)).mono ?_); rintro e w9 ⟨⟨xx, rfl, hxx⟩, hg, hs⟩)
   all_goals (try go_wp2_with fail)
   all_goals
    apply Shut.go3 (W := W) (g := g) hK
    ·simp only [puts, pz]; rfl
    ·exact gbz
    ·exact sbz
    ·intro hg hs; exact ⟨Dr.step hk hg hs, fun _ => by rw [upd_same]; exact ⟨_, rfl, by first | assumption | omega⟩, unz f27, unz f28, unz fun h => FBox.later hg (f5 h), trivial⟩
  ·intro u L W hn hd hJ
   obtain ⟨hk, f26, f27, f28, f5, _⟩ := hJ
   have hnd := hk.2
   obtain ⟨x26, e26, l26⟩ := f26 (hd 6 (by kernel_rfl))
   have il26 : (0 : Int) ≤ (x26 : Int) := (by omega); have iu26 : (x26 : Int) < ((m+1) : Int) := (by omega)
   intro K hK
   simp only [puts, pz, e26]
   go_simp
   all_goals (try go_wp2_with fail)
   all_goals
    apply Shut.go3 (W := W) (g := g) hK
    ·simp only [puts, pz, e26]; rfl
    ·exact gbz
    ·exact sbz
    ·intro hg hs; exact ⟨Dr.step hk hg hs, unz f26, fun _ => by rw [upd_same]; exact ⟨_, rfl, by exact l26⟩, unz f28, unz fun h => FBox.later hg (f5 h), trivial⟩
  ·intro u L W hn hd hJ
   obtain ⟨hk, f26, f27, f28, f5, _⟩ := hJ
   have hnd := hk.2
   obtain ⟨x27, e27, hx27⟩ := f27 (hd 7 (by kernel_rfl))
   obtain ⟨y1, y2, y3, hy1, hy2, hy3⟩ := own_at Hb1.out hk.1 hb1 nb4 hx27
   intro K hK
   simp only [puts, pz, e27]
   go_simp
   all_goals (try go_wp2_with fail)
   all_goals
    apply Shut.go3 (W := W) (g := g) hK
    ·simp only [puts, pz, e27]; rfl
    ·exact gbz
    ·exact sbz
    ·intro hg hs; exact ⟨Dr.step hk hg hs, unz f26, unz f27, fun _ => by rw [upd_same]; exact ⟨_, _, _, rfl⟩, unz fun h => FBox.later hg (f5 h), trivial⟩
  ·intro u L W hn hd hJ
   obtain ⟨hk, f26, f27, f28, f5, _⟩ := hJ
   have hnd := hk.2
   intro K hK
   simp only [puts, pz]
   go_simp
   all_goals (try go_wp2_with fail)
   all_goals
    apply Shut.go3 (W := W) (g := g) hK
    ·simp only [puts, pz]; rfl
    ·exact gbz
    ·exact sbz
    ·intro hg hs; exact ⟨Dr.step hk hg hs, unz f26, unz f27, unz f28, fun _ => by rw [upd_same]; exact FBox.new (Src.lt hnd) (World.grownBy.size hk.1) _ _ (by rfl), trivial⟩
 ·intro u L W hJ hL
  obtain ⟨hk, f26, f27, f28, f5, _⟩ := hJ
  obtain ⟨x26, e26, l26⟩ := f26 (hL 6 (by kernel_rfl))
  obtain ⟨x27, e27, hx27⟩ := f27 (hL 7 (by kernel_rfl))
  obtain ⟨x28_0, x28_1, x28_2, e28⟩ := f28 (hL 8 (by kernel_rfl))
  obtain ⟨b5, e5, gb5, bb5, lb5, cb5⟩ := f5 (hL 9 (by kernel_rfl))
  clear hHeld; have hcW := gcell hk.1; have hfW := gfroz hk.1; have hHeld := And.intro (HwE.trans hk.1) hk.2; have lW := hk.1.size
  clear f26
  clear f27
  clear f28
  clear f5
  simp only [puts, pz, setAll, Array.replicate, e26, e27, e28, e5]
  obtain ⟨⟨y5_0, cy5_0⟩, fy5_0⟩ := cb5 0 (by decide)
  obtain ⟨⟨y5_1, cy5_1⟩, fy5_1⟩ := cb5 1 (by decide)
  obtain ⟨⟨y5_2, cy5_2⟩, fy5_2⟩ := cb5 2 (by decide)
  refine rd1 10 none rfl (fun K hK => ?_)
  go_simp
  all_goals (try go_wp2_with fail)
  refine hK.out _ _ ?_ (fun hH2 => ?_)
  ·have hHg := hHeld.1; have hHs := hHeld.2; exact ⟨(by go_simp; done), gwz, swz⟩
  clear hK K hHeld; (have hHeld := hH2.2); clear hH2; (try simp only [Act.put])
  refine wpAnyH_done (by kernel_rfl) ?_ _; (try simp only [pz])
  obtain ⟨hgE, hsE⟩ := hHeld
  obtain ⟨wE, hE⟩ : ∃ x, x = ((W.setCell ⟨b5, 0, none⟩ (.int .i64 x28_0)).setCell ⟨b5, 1, none⟩ (.int .i64 x28_1)).setCell ⟨b5, 2, none⟩ (.int .i64 x28_2) := ⟨_, rfl⟩
  have z6 := hk.1.size
  have nv0 : ¬ b5 = b := by omega
  have nv1 : ¬ b5 = w.heap.size := by omega
  have nv2 : ¬ w.heap.size = b5 := by omega
  have e0 : wE.cell? ⟨b5, 0, none⟩ = some (.int .i64 x28_0) := by rw [hE]; exact ctz
  have e1 : wE.cell? ⟨w.heap.size, 0, none⟩ = some (.slice (some ⟨b, 0, none⟩) (m + 1) cap) := by
   rw [hE]; exact cell_set (cell_set (cell_set ((hcW _ _ (by omega) nz0).trans a0) (by dsimp only; omega)) (by dsimp only; omega)) (by dsimp only; omega)
  have HbE : ∀ j, j < (m + 1) * 3 → wE.cell? ⟨b, j, none⟩ = some (.int .i64 (Lf[j]?.getD 0)) := fun j hj => by
   rw [hE]; exact cell_set (cell_set (cell_set ((hcW _ _ hb1 nb4).trans (Hb1.out j hj).1) (by dsimp only; omega)) (by dsimp only; omega)) (by dsimp only; omega)
  have zE : W.heap.size = wE.heap.size := by rw [hE]; simp [World.setCell]
  have f0 := HbE 0 (by omega)
  have f1 := HbE (m * 3) (by omega)
  obtain ⟨tf, htf⟩ : ∃ x, x = Lf[0]?.getD 0 := ⟨_, rfl⟩
  obtain ⟨tl, htl⟩ : ∃ x, x = Lf[m * 3]?.getD 0 := ⟨_, rfl⟩
  have h1 := hM0.out
  have h2 := hMm.out
  rw [Nat.zero_mul] at h1
  rw [← htf] at f0 h1
  rw [← htl] at f1 h2
  rw [← hE] at hgE hsE ⊢
  have zv0 : w.heap.size < wE.heap.size := by omega
  have zv1 : b < wE.heap.size := by omega
  have zv2 : b5 < wE.heap.size := by omega
  have nv3 : ¬ b5 = g := by omega
  clear hE hcW hfW hk HbE htf htl Hb1 hMm hM0 cy5_0 cy5_1 cy5_2 fy5_0 fy5_1 fy5_2 a0
  go_wp2_with fail; (with_reducible refine (spec_l01Next g _ _ swz (by decide)).mono ?_); rintro e w4 ⟨⟨x4, rfl, hx4⟩, hg4, hs4⟩; have hc4 := gcell hg4; have hf4 := gfroz hg4; have lg4 := Src.lt hs4; have nga4 : ¬ w4.heap.size = g := (by omega); have ngb4 : ¬ g = w4.heap.size := (by omega); have hzs4 := hg4.size; (try simp at hzs4); have zx4_0 : w.heap.size < w4.heap.size := (by first | omega | (simp at hzs4; omega)); have zy4_0 : w.heap.size < w4.heap.size + 1 := (by omega); have zw4_0 : ¬ w4.heap.size = w.heap.size := (by omega); have zv4_0 : ¬ w.heap.size = w4.heap.size := (by omega); have zu4_0 : w.heap.size < w4.heap.size + 1 + 1 := (by omega); have zt4_0 : ¬ w4.heap.size + 1 = w.heap.size := (by omega); have zr4_0 : ¬ w.heap.size = w4.heap.size + 1 := (by omega); have zx4_1 : b < w4.heap.size := (by first | omega | (simp at hzs4; omega)); have zy4_1 : b < w4.heap.size + 1 := (by omega); have zw4_1 : ¬ w4.heap.size = b := (by omega); have zv4_1 : ¬ b = w4.heap.size := (by omega); have zu4_1 : b < w4.heap.size + 1 + 1 := (by omega); have zt4_1 : ¬ w4.heap.size + 1 = b := (by omega); have zr4_1 : ¬ b = w4.heap.size + 1 := (by omega); have zx4_2 : b5 < w4.heap.size := (by first | omega | (simp at hzs4; omega)); have zy4_2 : b5 < w4.heap.size + 1 := (by omega); have zw4_2 : ¬ w4.heap.size = b5 := (by omega); have zv4_2 : ¬ b5 = w4.heap.size := (by omega); have zu4_2 : b5 < w4.heap.size + 1 + 1 := (by omega); have zt4_2 : ¬ w4.heap.size + 1 = b5 := (by omega); have zr4_2 : ¬ b5 = w4.heap.size + 1 := (by omega)
  clear hx4
  by_cases k4 : x4 = 0
  ·subst k4
   go_wp2
   go_ret
   exact ⟨⟨_, rfl⟩, gwz, swz⟩
  have k5 : (x4 == 0) = false := beq_eq_false_iff_ne.2 k4
  have we1 : IntKind.i64.wrap (tl - tf) = tl - tf := IntWalk.i64_in _ (by omega)
  have we2 : IntKind.i64.wrap (tl - tf + 1) = tl - tf + 1 := IntWalk.i64_in _ (by omega)
  have wem : IntKind.i64.wrap (m : Int) = (m : Int) := IntWalk.i64_in _ (by omega)
  have hj1 : (0 : Int) ≤ (m : Int) := by omega
  have hj2 : (m : Int) < (m : Int) + 1 := by omega
  have hj3 : (0 : Int) < (m : Int) + 1 := by omega
  go_upto_region 6 with fail
  go_quiet (fail)
  go_wp2_with fail; (with_reducible refine (spec_l01Next g _ _ swz (by omega)).mono ?_); rintro e w6 ⟨⟨x6, rfl, hx6⟩, hg6, hs6⟩; have hc6 := gcell hg6; have hf6 := gfroz hg6; have lg6 := Src.lt hs6; have nga6 : ¬ w6.heap.size = g := (by omega); have ngb6 : ¬ g = w6.heap.size := (by omega); have hzs6 := hg6.size; (try simp at hzs6); have zx6_0 : w.heap.size < w6.heap.size := (by first | omega | (simp at hzs6; omega)); have zy6_0 : w.heap.size < w6.heap.size + 1 := (by omega); have zw6_0 : ¬ w6.heap.size = w.heap.size := (by omega); have zv6_0 : ¬ w.heap.size = w6.heap.size := (by omega); have zu6_0 : w.heap.size < w6.heap.size + 1 + 1 := (by omega); have zt6_0 : ¬ w6.heap.size + 1 = w.heap.size := (by omega); have zr6_0 : ¬ w.heap.size = w6.heap.size + 1 := (by omega); have zx6_1 : b < w6.heap.size := (by first | omega | (simp at hzs6; omega)); have zy6_1 : b < w6.heap.size + 1 := (by omega); have zw6_1 : ¬ w6.heap.size = b := (by omega); have zv6_1 : ¬ b = w6.heap.size := (by omega); have zu6_1 : b < w6.heap.size + 1 + 1 := (by omega); have zt6_1 : ¬ w6.heap.size + 1 = b := (by omega); have zr6_1 : ¬ b = w6.heap.size + 1 := (by omega); have zx6_2 : b5 < w6.heap.size := (by first | omega | (simp at hzs6; omega)); have zy6_2 : b5 < w6.heap.size + 1 := (by omega); have zw6_2 : ¬ w6.heap.size = b5 := (by omega); have zv6_2 : ¬ b5 = w6.heap.size := (by omega); have zu6_2 : b5 < w6.heap.size + 1 + 1 := (by omega); have zt6_2 : ¬ w6.heap.size + 1 = b5 := (by omega); have zr6_2 : ¬ b5 = w6.heap.size + 1 := (by omega)
  go_wp2
  go_ret
  exact ⟨⟨_, rfl⟩, gwz, swz⟩
end Go.Proofs.YtgcdgdnmcdffoaaGreatDoor
/- The invariant rule for drawn regions, where what comes last waits for some of the operations by way of others. -/
namespace Go.Proofs.YtgcdgdnmcdffoaaGreatDoor

section
variable {P : Program} {ops : Array Oper} {Q : Exit → Act → World → Prop} {S : World → Prop}
def chkInv3 (ops : Array Oper) (l0 : Array Bool) (hs ps : List Nat) : Bool :=
 l0.size == ops.size && ((hs ++ ps).all fun h => h < l0.size && (depsOf ops h).all fun k => k < h && (l0.getD k false || (hs ++ ps).contains k)) &&
 ((List.range ops.size).all fun i => l0.getD i true || (hs ++ ps).contains i || ((depsOf ops i).any fun g => g < l0.size && (l0.getD g true == false) && !((hs ++ ps).contains g)) || hs.all fun h => (depsOf ops i).contains h || hs.any fun g => (depsOf ops i).contains g && (depsOf ops g).contains h) && (hs ++ ps).all fun h => l0.getD h true == false
theorem wpAnyH_inv3_go {l0 : Array Bool} {a0 : Act} {fuel : Nat} (hs ps ds : List Nat) (J : (Nat → Value) → (Nat → Prop) → World → Prop) (hn : (hs ++ ps).Nodup) (hc : chkInv3 ops l0 hs ps = true) (hsel : Region.noSelect ops = true) (hQ : ∀ (d : Nat) v c a w, Q (.panic c) (Act.put a (some d) v) w → Q (.panic c) a w)
 (hS : ∀ u L W, J u L W → S W) (hstep : StepsH P ops Q J a0 ds hs) (hpure : PuresH P ops S J a0 ds ps)
 (hdone : ∀ u L W, J u L W → (∀ j, L j ↔ (setAll l0 (hs ++ ps)).getD j false = true) → wpAnyH P .any ops Q S fuel (setAll l0 (hs ++ ps)) (puts a0 u ds) W) :
 ∀ (m : Nat) (l : Array Bool) (u : Nat → Value) (W : World), m = left l (hs ++ ps) → l.size = l0.size → (∀ j, l0.getD j false = true → l.getD j false = true) → (∀ j, l.getD j false = true → l0.getD j false = true ∨ j ∈ hs ++ ps) → (∀ j ∈ hs ++ ps, l.getD j false = true → ∀ k ∈ depsOf ops j, l.getD k false = true) →
  J u (fun j => l.getD j false = true) W → wpAnyH P .any ops Q S (fuel + m) l (puts a0 u ds) W := by
 simp only [chkInv3, Bool.and_eq_true, List.all_eq_true, beq_iff_eq, decide_eq_true_eq, List.mem_range, Bool.or_eq_true] at hc
 obtain ⟨⟨⟨hsz, hc1⟩, hc2⟩, hc3⟩ := hc
 have gd : ∀ (l : Array Bool) (j : Nat), j < l.size → l.getD j true = l.getD j false := fun l j h => by simp [h]
 intro m
 induction m with
 | zero =>
  intro l u W hm hls h1 h2 hcl hJ
  have hall : ∀ h ∈ hs ++ ps, l.getD h false = true := fun h hh => by
   have := List.length_eq_zero_iff.1 hm.symm
   have h4 : ¬ (l.getD h true == false) = true := fun k => by
    have h5 : h ∈ (hs ++ ps).filter (open1 l) := List.mem_filter.2 ⟨hh, k⟩
    rw [this] at h5
    cases h5
   rw [gd l h (by rw [hls]; exact (hc1 h hh).1)] at h4
   cases h5 : l.getD h false with
   | true => rfl
   | false => rw [h5] at h4; exact absurd rfl h4
  have hl : l = setAll l0 (hs ++ ps) := by
   apply Array.ext (by rw [setAll_size, hls])
   intro i hi1 hi2
   have e1 : l[i] = l.getD i false := by simp [hi1]
   have e2 : (setAll l0 (hs ++ ps))[i] = (setAll l0 (hs ++ ps)).getD i false := by simp [hi2]
   rw [e1, e2, setAll_getD]
   by_cases k : i ∈ hs ++ ps ∧ i < l0.size
   ·rw [if_pos k, hall i k.1]
   ·rw [if_neg k]
    cases h5 : l0.getD i false with
    | true => exact h1 i h5
    | false =>
     cases h6 : l.getD i false with
     | false => rfl
     | true =>
      rcases h2 i h6 with k1 | k1
      ·rw [h5] at k1; cases k1
      ·exact absurd ⟨k1, by rw [← hls]; exact hi1⟩ k
  subst hl
  exact hdone u _ W hJ fun j => Iff.rfl
 | succ m ih =>
  intro l u W hm hls h1 h2 hcl hJ
  have go : ∀ (i : Nat) (d : Nat) (v : Value) (W' : World), i ∈ hs ++ ps → l.getD i true = false → (∀ k ∈ depsOf ops i, l.getD k false = true) → d ∈ ds → J (upd u d v) (fun j => j = i ∨ l.getD j false = true) W' → wpAnyH P .any ops Q S (fuel + m) (l.setIfInBounds i true) ((puts a0 u ds).put (some d) v) W' := fun i d v W' hih hun hdi hmem hJ' => by
   have hil : i < l.size := by have := (hc1 i hih).1; omega
   rw [puts_put a0 u d v ds hmem]
   have hL : (fun j => j = i ∨ l.getD j false = true) = fun j => (l.setIfInBounds i true).getD j false = true := by
    funext j
    apply propext
    by_cases hij : i = j
    ·subst hij
     simp [hil]
    ·rw [getD_set_ne false hij]
     constructor
     ·rintro (k | k)
      ·exact absurd k.symm hij
      ·exact k
     ·exact .inr
   rw [hL] at hJ'
   refine ih (l.setIfInBounds i true) (upd u d v) W' ?_ (by rw [Array.size_setIfInBounds, hls]) (fun j hj => getD_set_true (h1 j hj)) (fun j hj => ?_) (fun j hj hjl k hk => getD_set_true (by
    by_cases hij : i = j
    ·subst hij; exact hdi k hk
    ·rw [getD_set_ne false hij] at hjl; exact hcl j hj hjl k hk)) hJ'
   · -- one less is left
    have key : ∀ (hs : List Nat), hs.Nodup → i ∈ hs → left l hs = left (l.setIfInBounds i true) hs + 1 := by
     intro hs
     induction hs with
     | nil => intro _ hmem; cases hmem
     | cons x xs ihx =>
      intro hnd hmem
      have hnd' := List.nodup_cons.1 hnd
      by_cases hx : i = x
      ·subst hx
       have hsame : ∀ y ∈ xs, open1 (l.setIfInBounds i true) y = open1 l y := fun y hy => by
        unfold open1
        rw [getD_set_ne true (show i ≠ y from fun k => hnd'.1 (by rw [k]; exact hy))]
       have hli : i < l.size := by omega
       unfold left
       rw [List.filter_cons_of_pos (by unfold open1; rw [hun]; rfl), List.filter_cons_of_neg (by unfold open1; simp [hli]), List.filter_congr hsame]
       simp
      ·have hmx : i ∈ xs := by
        rcases List.mem_cons.1 hmem with k | k
        ·exact absurd k hx
        ·exact k
       have := ihx hnd'.2 hmx
       have e1 : open1 (l.setIfInBounds i true) x = open1 l x := by unfold open1; rw [getD_set_ne true hx]
       unfold left at this ⊢
       by_cases hb : open1 l x = true
       ·rw [List.filter_cons_of_pos hb, List.filter_cons_of_pos (by rw [e1]; exact hb)]
        simp only [List.length_cons]; omega
       ·rw [List.filter_cons_of_neg hb, List.filter_cons_of_neg (by rw [e1]; exact hb)]
        exact this
    have := key (hs ++ ps) hn hih
    omega
   ·by_cases hij : i = j
    ·subst hij; exact .inr hih
    ·rw [getD_set_ne false hij] at hj; exact h2 j hj
  by_cases hp : ∃ p ∈ ps, l.getD p false = false ∧ ∀ k ∈ depsOf ops p, l.getD k false = true
  ·obtain ⟨p, hpp, hpf, hpd⟩ := hp
   have hpa : p ∈ hs ++ ps := List.mem_append_right _ hpp
   obtain ⟨o, d, ho, hd, hmem, hpo, hst⟩ := hpure p hpp
   have hun : l.getD p true = false := by rw [gd l p (by have := (hc1 p hpa).1; omega)]; exact hpf
   obtain ⟨v, hy, hJ'⟩ := hst u (fun j => l.getD j false = true) W (by simp [hpf]) (fun k hk => hpd k (by simpa using hk)) hJ
   have hput : (puts a0 u ds).put o.dst v = (puts a0 u ds).put (some d) v := by rw [hd]
   refine wpAnyH_first ho (fun j oj cs b hj => Region.noSelect_spec hsel j oj cs b hj) (fun c a w h => hQ d v c a w (hd ▸ h)) (fuel + m) l (puts a0 u ds) W (fun j oj hj hne hlj hno => pureOk_spec ho hpo j oj hj hne (by
    cases hc : (depsOf ops p).contains j with
    | false => rfl
    | true =>
     have h1 := hpd j (by simpa using hc)
     simp only [Array.getD_eq_getD_getElem?] at h1 hlj
     cases h2 : l[j]? with
     | none => rw [h2] at hlj; cases hlj
     | some b => rw [h2] at h1 hlj; simp at h1 hlj; rw [h1] at hlj; cases hlj) hno) (mem_ready.2 ⟨hun, o, ho, fun e he hb => hpd _ ((deps_mem ho).2 ⟨e, he, hb, rfl⟩)⟩) hy (hS _ _ _ hJ) ?_
   rw [hput]
   exact go p d v W hpa hun hpd hmem hJ'
  -- one of them has not come up: the least
  have hex : ∃ h ∈ hs ++ ps, l.getD h false = false := by
   cases hf : (hs ++ ps).filter (open1 l) with
   | nil => rw [left, hf] at hm; cases hm
   | cons h t =>
    have := List.mem_filter.1 (show h ∈ (hs ++ ps).filter (open1 l) by rw [hf]; exact List.mem_cons_self)
    refine ⟨h, this.1, ?_⟩
    rw [← gd l h (by rw [hls]; exact (hc1 h this.1).1)]
    exact eq_of_beq this.2
  have hrd : ∀ n, ∀ h ∈ hs ++ ps, h < n → l.getD h false = false → ∃ i ∈ hs, l.getD i false = false ∧ ∀ k ∈ depsOf ops i, l.getD k false = true := by
   intro n
   induction n with
   | zero => intro h _ hlt; exact absurd hlt (Nat.not_lt_zero _)
   | succ n ihn =>
    intro h hh hlt hf
    by_cases hd : ∃ k ∈ depsOf ops h, l.getD k false = false
    ·obtain ⟨k, hk, hkf⟩ := hd
     obtain ⟨k1, k2⟩ := (hc1 h hh).2 k hk
     have hk3 : k ∈ hs ++ ps := by
      rcases k2 with k2 | k2
      ·rw [h1 k k2] at hkf; cases hkf
      ·simpa using k2
     exact ihn k hk3 (by omega) hkf
    ·have hall : ∀ k ∈ depsOf ops h, l.getD k false = true := fun k hk => by
      cases h5 : l.getD k false with
      | true => rfl
      | false => exact absurd ⟨k, hk, h5⟩ hd
     rcases List.mem_append.1 hh with hh | hh
     ·exact ⟨h, hh, hf, hall⟩
     ·exact absurd ⟨h, hh, hf, hall⟩ hp
  obtain ⟨h, hh, hf⟩ := hex
  obtain ⟨r, hr, hrf, hrd⟩ := hrd (h + 1) h hh (Nat.lt_succ_self h) hf
  have hrr : r ∈ Region.ready .any ops l := by
   obtain ⟨o, d, ho, _⟩ := hstep r hr
   exact mem_ready.2 ⟨by rw [gd l r (by rw [hls]; exact (hc1 r (List.mem_append_left _ hr)).1)]; exact hrf, o, ho, fun e he hb => hrd _ ((deps_mem ho).2 ⟨e, he, hb, rfl⟩)⟩
  refine ⟨fun h0 => (by rw [h0] at hrr; cases hrr), fun i hi => ?_⟩
  obtain ⟨hun, o', ho', hall⟩ := mem_ready.1 hi
  have hil : i < ops.size := (Array.getElem?_eq_some_iff.1 ho').1
  have hun' : l.getD i false = false := by rw [← gd l i (by omega)]; exact hun
  have hia : i ∈ hs ++ ps := by
   rcases hc2 i hil with ((k | k) | k) | k
   ·rw [gd l0 i (by omega)] at k
    rw [h1 i k] at hun'; cases hun'
   ·simpa using k
   ·obtain ⟨q, hq, hq2⟩ := List.any_eq_true.1 k
    simp only [Bool.and_eq_true, decide_eq_true_eq, beq_iff_eq, Bool.not_eq_true'] at hq2
    obtain ⟨e, he, hb, rfl⟩ := (deps_mem ho').1 hq
    have hl := hall e he hb
    rcases h2 _ hl with k2 | k2
    ·have := hq2.1.2
     have e3 : l0.getD e.on true = l0.getD e.on false := gd l0 e.on hq2.1.1
     rw [e3, k2] at this; cases this
    ·have := hq2.2
     rw [show (hs ++ ps).contains e.on = true by simpa using k2] at this; cases this
   ·rcases k r hr with k | k
    ·obtain ⟨e, he, hb, rfl⟩ := (deps_mem ho').1 (by simpa using k)
     rw [hall e he hb] at hrf; cases hrf
    ·obtain ⟨q, hq, hq2⟩ := List.any_eq_true.1 k
     simp only [Bool.and_eq_true] at hq2
     obtain ⟨e, he, hb, rfl⟩ := (deps_mem ho').1 (by simpa using hq2.1)
     rw [hcl _ (List.mem_append_left _ hq) (hall e he hb) r (by simpa using hq2.2)] at hrf; cases hrf
  have hih : i ∈ hs := by
   rcases List.mem_append.1 hia with k | k
   ·exact k
   ·exact absurd ⟨i, k, hun', fun q hq => by obtain ⟨e, he, hb, rfl⟩ := (deps_mem ho').1 hq; exact hall e he hb⟩ hp
  obtain ⟨o, d, ho, hd, hmem, hst⟩ := hstep i hih
  have hoo : o = o' := by rw [ho] at ho'; exact Option.some.inj ho'
  subst hoo
  refine wpOp_step ho fun K' hK => ?_
  rw [hd]
  refine hst u (fun j => l.getD j false = true) W (by simp [hun']) (fun k hk => ?_) hJ K' (fun v W' hJ' => hK _ _ ?_)
  ·obtain ⟨e, he, hb, rfl⟩ := (deps_mem ho).1 (by simpa using hk)
   exact hall e he hb
  ·exact ⟨hS _ _ _ hJ', go i d v W' hia hun (fun q hq => by obtain ⟨e, he, hb, rfl⟩ := (deps_mem ho).1 hq; exact hall e he hb) hmem hJ'⟩
theorem wpAnyH_inv3 {l0 : Array Bool} {a0 : Act} {w : World} {fuel : Nat} (hs ps ds : List Nat) (J : (Nat → Value) → (Nat → Prop) → World → Prop) (hn : (hs ++ ps).Nodup) (hc : chkInv3 ops l0 hs ps = true) (hsel : Region.noSelect ops = true) (hQ : ∀ (d : Nat) v c a w, Q (.panic c) (Act.put a (some d) v) w → Q (.panic c) a w)
 (hS : ∀ u L W, J u L W → S W) (h0 : ∀ u L, (∀ j ∈ hs ++ ps, ¬ L j) → J u L w) (hstep : StepsH P ops Q J a0 ds hs) (hpure : PuresH P ops S J a0 ds ps)
 (hdone : ∀ u L W, J u L W → (∀ j, (setAll l0 (hs ++ ps)).getD j false = true → L j) → wpAnyH P .any ops Q S fuel (setAll l0 (hs ++ ps)) (puts a0 u ds) W) :
 wpAnyH P .any ops Q S (fuel + (hs ++ ps).length) l0 a0 w := by
 have hc' := hc
 simp only [chkInv3, Bool.and_eq_true, List.all_eq_true, beq_iff_eq, decide_eq_true_eq, List.mem_range, Bool.or_eq_true] at hc'
 obtain ⟨⟨⟨hsz, hc1⟩, hc2⟩, hc3⟩ := hc'
 have hm : (hs ++ ps).length = left l0 (hs ++ ps) := by
  unfold left
  rw [List.filter_eq_self.2 fun h hh => by unfold open1; rw [hc3 h hh]; rfl]
 have := wpAnyH_inv3_go (P := P) (Q := Q) (S := S) hs ps ds J hn hc hsel hQ hS hstep hpure (fun u L W hJ hL => hdone u L W hJ fun j hj => (hL j).2 hj) (hs ++ ps).length l0 (fun d => a0.tmps.getD d undef) w hm rfl (fun j h => h) (fun j h => .inl h) (fun j hj hl => by
  have h3 := hc3 j hj
  have hlt := (hc1 j hj).1
  have : l0.getD j true = l0.getD j false := by simp [hlt]
  rw [this, hl] at h3; cases h3)
  (h0 _ _ fun j hj hL => by
   have h3 := hc3 j hj
   have hlt := (hc1 j hj).1
   have : l0.getD j true = l0.getD j false := by simp [hlt]
   rw [this, hL] at h3; cases h3)
 rwa [puts_self] at this
end
end Go.Proofs.YtgcdgdnmcdffoaaGreatDoor
