/- Walks: the source of draws is made, and hands out numbers. -/
import Derived.Test.YtklbbopdmnopgaaGreatDoorKp
import Derived.Test.YtklbbopdmnopgaaGreatDoorA
import Derived.Deep.QuietTactic
import Derived.BigQuiet
import Derived.Deep.DeepCutAuto
namespace Go.Proofs.YtklbbopdmnopgaaGreatDoor
open Go.RowKit

theorem rem_bd (a : Int) (h : 0 ≤ a) : 0 ≤ a.tmod 2147483647 ∧ a.tmod 2147483647 < 2147483647 := ⟨Int.tmod_nonneg _ h, Int.tmod_lt_of_pos _ (by decide)⟩
theorem quo_bd (a : Int) (h : 0 ≤ a) (h2 : a < 2147483647) : 0 ≤ a.tdiv 17 ∧ a.tdiv 17 < 2147483647 := by
 rw [Int.tdiv_eq_ediv_of_nonneg h]; omega
theorem rem_bd2 (a k : Int) (h : 0 ≤ a) (h2 : 1 < k) : 0 ≤ a.tmod k ∧ a.tmod k < k := ⟨Int.tmod_nonneg _ h, Int.tmod_lt_of_pos _ (by omega)⟩
/-- What a draw of a number returns. -/
def NumC (w : World) (g : Nat) (k : Int) (e : Ending) (w' : World) : Prop := (∃ x : Int, e = .returned (.int .i64 x) ∧ (1 < k → 0 ≤ x ∧ x < k)) ∧ w.grownBy w' (some g) ∧ Src w' g
set_option maxRecDepth 100000 in
set_option maxHeartbeats 4000000 in
theorem spec_l01Next (g : Nat) (k : Int) (w : World) (h : Src w g) (hk : k ≤ 9000000000000000000) :
 Calls Tryz.prog 31 #[.pointer (some ⟨g, 0, none⟩), .int .i64 k] w (NumC w g k) := by
 by_cases k1 : k ≤ 1
 ·go_enter Tryz.func31, Tryz.ntmps31
  go_wp2
  go_ret
  exact ⟨⟨_, rfl, fun k2 => absurd k2 (by omega)⟩, World.grownBy.refl _ _, h⟩
 have HS := hide h
 obtain ⟨so, n, cap, B, a, sd, hn, hrow, hB, hso, ha, hs0, hs1, c0, c1, c2, f1, f2⟩ := h
 have m1 : 0 ≤ sd * 48271 + 23 := by omega
 have hj1 : (0 : Int) ≤ (a : Int) := by omega
 by_cases hlt : a < n
 ·obtain ⟨b, o, rfl, hcb⟩ := hrow a hlt
  have cb := hcb 0 (by decide)
  simp only [vb, Nat.mul_one, Nat.add_zero] at cb
  have hbg := hso b o rfl (by omega)
  have hbg2 : ¬ b = g := by omega
  have hbg3 : ¬ g = b := by omega
  obtain ⟨B1, B2⟩ := hB a
  have hj2 : (a : Int) < (n : Int) := by omega
  have hj3 : (0 : Int) ≤ (a : Int) + 1 - 1 := by omega
  clear hrow hB hso hcb
  by_cases k4 : k ≤ 256
  ·by_cases k5 : ((a : Int) + 1) % 2 = 0
   ·go_enter Tryz.func31, Tryz.ntmps31
    go_upto_region 5 with fail
    go_quiet (fail)
    go_upto_region 6 with fail
    go_quiet (fail)
    go_upto_region 9 with fail
    go_quiet (fail)
    go_wp2
    go_ret
    exact ⟨⟨_, rfl, fun _ => ⟨Int.emod_nonneg _ (by omega), Int.emod_lt_of_pos _ (by omega)⟩⟩, by (repeat (first | exact World.grownBy.refl _ _ | refine gr_drewN ?_ _ | refine gr_set ?_)), by (repeat (first | exact HS.out | refine Src.drewN ?_ _ | refine Src.seed ?_ (by omega) (by omega) | refine Src.at ?_ (show World.cell? _ _ = some (.slice (some ⟨b, o, none⟩) n cap) by go_simp) (by omega) (by omega)))⟩
   ·go_enter Tryz.func31, Tryz.ntmps31
    go_upto_region 5 with fail
    go_quiet (fail)
    go_upto_region 6 with fail
    go_quiet (fail)
    go_wp2
    go_ret
    exact ⟨⟨_, rfl, fun _ => ⟨Int.emod_nonneg _ (by omega), Int.emod_lt_of_pos _ (by omega)⟩⟩, by (repeat (first | exact World.grownBy.refl _ _ | refine gr_drewN ?_ _ | refine gr_set ?_)), by (repeat (first | exact HS.out | refine Src.drewN ?_ _ | refine Src.seed ?_ (by omega) (by omega) | refine Src.at ?_ (show World.cell? _ _ = some (.slice (some ⟨b, o, none⟩) n cap) by go_simp) (by omega) (by omega)))⟩
  ·go_enter Tryz.func31, Tryz.ntmps31
   go_upto_region 5 with fail
   go_quiet (fail)
   go_upto_region 6 with fail
   go_quiet (fail)
   go_wp2
   go_ret
   exact ⟨⟨_, rfl, fun _ => ⟨Int.emod_nonneg _ (by omega), Int.emod_lt_of_pos _ (by omega)⟩⟩, by (repeat (first | exact World.grownBy.refl _ _ | refine gr_drewN ?_ _ | refine gr_set ?_)), by (repeat (first | exact HS.out | refine Src.drewN ?_ _ | refine Src.seed ?_ (by omega) (by omega) | refine Src.at ?_ (show World.cell? _ _ = some (.slice (some ⟨b, o, none⟩) n cap) by go_simp) (by omega) (by omega)))⟩
 ·have hj2 : (n : Int) ≤ (a : Int) := by omega
  clear hrow hB hso
  go_enter Tryz.func31, Tryz.ntmps31
  go_upto_region 5 with fail
  go_quiet (fail)
  go_wp2
  go_ret
  exact ⟨⟨_, rfl, fun _ => ⟨Int.emod_nonneg _ (by omega), Int.emod_lt_of_pos _ (by omega)⟩⟩, by (repeat (first | exact World.grownBy.refl _ _ | refine gr_drewN ?_ _ | refine gr_set ?_)), by (repeat (first | exact HS.out | refine Src.drewN ?_ _ | refine Src.seed ?_ (by omega) (by omega)))⟩
set_option maxRecDepth 100000 in
set_option maxHeartbeats 4000000 in
theorem spec_l01From (so : Option Addr) (n cap : Nat) (B : Nat → Int) (w : World) (h : RowAt w so n 1 (vb B)) (hB : ∀ i, 0 ≤ B i ∧ B i ≤ 255) (hn : n ≤ 1048576) :
 Calls Tryz.prog 14 #[.slice so n cap] w fun e w' => e = .returned (.pointer (some ⟨w.heap.size, 0, none⟩)) ∧ Src w' w.heap.size ∧ Below w.heap.size w w' := by
 have Hh := hide h
 have HB := hide hB
 have Hf := hide (show ∀ b o, so = some ⟨b, o, none⟩ → 0 < n → b < w.heap.size from fun b o e h0 => by
  obtain ⟨b', o', e', k⟩ := h 0 h0
  rw [e] at e'
  injection e' with e'
  injection e' with e1 e2
  subst e1
  exact World.block_lt_of_cell? _ _ (k 0 (by decide)))
 clear h hB
 go_enter Tryz.func14, Tryz.ntmps14
 go_wp2
 go_loopw [4] (fun i wr => ∃ k : Nat, k ≤ n ∧ i = .int .i64 k ∧ Hid (Src wr w.heap.size) ∧ Below w.heap.size w wr) (fun i _ => n - (intOf i).toNat)
 case atStart =>
  exact ⟨0, Nat.zero_le _, rfl, hide ⟨so, n, cap, B, 0, 61657, hn, RowAt.later bwz Hh.out, HB.out, Hf.out, Nat.zero_le _, by decide, by decide, by go_simp, by go_simp, by go_simp, by go_simp, by go_simp⟩, bwz⟩
 case round =>
  obtain ⟨k, hk, rfl, HS, hbl⟩ := hrel
  have hlt9 := Src.lt HS.out
  by_cases hlt : k < n
  ·by_cases h64 : k < 64
   ·obtain ⟨so', n', cap', B', a, sd, _, _, _, _, _, d1, d2, c0, c1, c2, f1, f2⟩ := HS.out
    obtain ⟨b, o, rfl, hcb⟩ := (RowAt.later hbl Hh.out) k hlt
    have cb := hcb 0 (by decide)
    simp only [vb, Nat.mul_one, Nat.add_zero] at cb
    have hbs := World.block_lt_of_cell? _ _ cb
    simp only at hbs
    have hbg := Hf.out b o rfl (by omega)
    have hn1 : ¬ b = w.heap.size := by omega
    have hn2 : ¬ w.heap.size = b := by omega
    obtain ⟨B1, B2⟩ := HB.out k
    have hi1 : (0 : Int) ≤ (k : Int) := by omega
    have hi2 : (k : Int) < (n : Int) := by omega
    clear hcb
    go_upto_region 5 with fail
    go_region
    go_wp2
    go_roundw
    case rel => exact ⟨k + 1, by omega, by go_num, hide (by repeat (first | exact HS.out | refine Src.drewN ?_ _ | refine Src.seed ?_ (by omega) (by omega))), bwz⟩
    case measure => simp [intOf]; omega
   ·have hi3 : ¬ (k : Int) < 64 := by omega
    go_wp2
    go_ret
    exact ⟨rfl, HS.out, hbl⟩
  ·obtain rfl : k = n := by omega
   go_wp2
   go_ret
   exact ⟨rfl, HS.out, hbl⟩
end Go.Proofs.YtklbbopdmnopgaaGreatDoor
/- Walks: points, winds and headings are drawn. -/
namespace Go.Proofs.YtklbbopdmnopgaaGreatDoor
open Go.RowKit

theorem Src.drew {W : World} {g : Nat} (h : Src W g) : Src W.drew g := h
theorem spec_l01NextN (g k : Nat) (K : Int) (w : World) (h : Src w g) (hK : K = (k : Int)) (h1 : 1 < k) (h2 : k < 1000000) :
 Calls Tryz.prog 31 #[.pointer (some ⟨g, 0, none⟩), .int .i64 K] w fun e w' => (∃ x : Nat, e = .returned (.int .i64 (x : Int)) ∧ x < k) ∧ w.grownBy w' (some g) ∧ Src w' g := by
 subst hK
 refine (spec_l01Next g _ w h (by omega)).mono ?_
 rintro e w' ⟨⟨x, rfl, hx⟩, h3, h4⟩
 obtain ⟨x1, x2⟩ := hx (by omega)
 obtain ⟨m, rfl⟩ := Int.eq_ofNat_of_zero_le x1
 exact ⟨⟨m, rfl, by omega⟩, h3, h4⟩
/-- What a draw of a pair returns. -/
def PtC (w : World) (g : Nat) (e : Ending) (w' : World) : Prop := (∃ x y : Int, e = .returned (.agg #[.int .i64 x, .int .i64 y])) ∧ w.grownBy w' (some g) ∧ Src w' g
set_option maxRecDepth 100000 in
set_option maxHeartbeats 4000000 in
theorem spec_l01DrawPoint (g : Nat) (w : World) (h : Src w g) : Calls Tryz.prog 51 #[.pointer (some ⟨g, 0, none⟩)] w (PtC w g) := by
 have ng := Src.lt h
 have nz0 : ¬ w.heap.size = g := by omega
 have nz1 : ¬ g = w.heap.size := by omega
 go_enter Tryz.func51, Tryz.ntmps51
 go_wp2_with fail; (with_reducible refine (spec_l01Next g _ _ (Src.alloc h _) (by decide)).mono ?_); rintro e w1 ⟨⟨x1, rfl, hx1⟩, hg1, hs1⟩
 have hc1 := gcell hg1
 have hf1 := gfroz hg1
 have hz1 := hg1.size
 simp at hz1
 have z1 : w.heap.size < w1.heap.size := by omega
 clear hx1
 by_cases k1 : x1 = 0
 ·subst k1
  go_upto_region 2 with fail
  have HwE : World.grownBy w w1 (some g) := gwz
  refine wp_region_held_drew (S := fun W => World.grownBy w W (some g) ∧ Src W g) (by kernel_rfl) ⟨gr_drew HwE, by assumption⟩ (fun hHeld => ?_)
  refine tkD 1 (some 8) rfl ?_; simp only [pz]
  refine tkD 6 (some 13) rfl ?_; simp only [pz]
  refine wpAnyH_inv (fuel := 1) [0, 2, 3, 4, 5, 7, 8, 9, 10] [7, 9, 10, 11, 12, 14, 15, 16, 17] (fun u L W => (World.grownBy w1 W (some g) ∧ Src W g) ∧ (L 0 → FRow g 3 (u 7) W) ∧ (L 2 → FNat 3 (u 9)) ∧ (L 3 → FAddr g (u 10) W) ∧ (L 4 → FInt (u 11)) ∧ (L 5 → FRow g 3 (u 12) W) ∧ (L 7 → FNat 3 (u 14)) ∧ (L 8 → FAddr g (u 15) W) ∧ (L 9 → FInt (u 16)) ∧ (L 10 → FAgg2 (u 17)) ∧ True) (by decide) (by kernel_rfl) (fun u L W hJ => ⟨HwE.trans hJ.1.1, hJ.1.2⟩) (fun u L hL => ⟨⟨gr_drew (World.grownBy.refl _ _), by assumption⟩, fun k => absurd k (hL 0 (by decide)), fun k => absurd k (hL 2 (by decide)), fun k => absurd k (hL 3 (by decide)), fun k => absurd k (hL 4 (by decide)), fun k => absurd k (hL 5 (by decide)), fun k => absurd k (hL 7 (by decide)), fun k => absurd k (hL 8 (by decide)), fun k => absurd k (hL 9 (by decide)), fun k => absurd k (hL 10 (by decide)), trivial⟩) ?_ ?_
  ·refine sc1 7 ?_ ?_
   rotate_left
   refine sc1 9 ?_ ?_
   rotate_left
   refine sc1 10 ?_ ?_
   rotate_left
   refine sc1 11 ?_ ?_
   rotate_left
   refine sc1 12 ?_ ?_
   rotate_left
   refine sc1 14 ?_ ?_
   rotate_left
   refine sc1 15 ?_ ?_
   rotate_left
   refine sc1 16 ?_ ?_
   rotate_left
   refine sc1 17 ?_ ?_
   rotate_left
   exact StepsH.nil
   ·intro u L W hn hd hJ
    obtain ⟨hk, f7, f9, f10, f11, f12, f14, f15, f16, f17, _⟩ := hJ
    have hnd := hk.2
    intro K hK
    simp only [puts, pz]
    go_simp
    all_goals (try go_wp2_with fail)
    all_goals
     apply Shut.go3 (W := W) (g := g) hK
     ·simp only [puts, pz]; rfl
     ·exact gbz
     ·exact sbz
     ·intro hg hs; exact ⟨Dr.step hk hg hs, fun _ => by rw [upd_same]; exact FRow.new (Src.lt hnd) _ _ (fun j hj => by rcases (show j = 0 ∨ j = 1 ∨ j = 2 by omega) with rfl | rfl | rfl <;> exact ⟨_, rfl⟩), unz f9, unz fun h => FAddr.later hg (f10 h), unz f11, unz fun h => FRow.later hg (f12 h), unz f14, unz fun h => FAddr.later hg (f15 h), unz f16, unz f17, trivial⟩
   ·intro u L W hn hd hJ
    obtain ⟨hk, f7, f9, f10, f11, f12, f14, f15, f16, f17, _⟩ := hJ
    have hnd := hk.2
    intro K hK
    simp only [puts, pz]
    go_simp; (go_at_call 31; (with_reducible refine (spec_l01NextN g 3 3 _ hnd (by decide) (by decide) (by decide)).mono ?_); rintro e w9 ⟨⟨xx, rfl, hxx⟩, hg, hs⟩)
    all_goals (try go_wp2_with fail)
    all_goals
     apply Shut.go3 (W := W) (g := g) hK
     ·simp only [puts, pz]; rfl
     ·exact gbz
     ·exact sbz
     ·intro hg hs; exact ⟨Dr.step hk hg hs, unz fun h => FRow.later hg (f7 h), fun _ => by rw [upd_same]; exact ⟨_, rfl, by first | assumption | omega⟩, unz fun h => FAddr.later hg (f10 h), unz f11, unz fun h => FRow.later hg (f12 h), unz f14, unz fun h => FAddr.later hg (f15 h), unz f16, unz f17, trivial⟩
   ·intro u L W hn hd hJ
    obtain ⟨hk, f7, f9, f10, f11, f12, f14, f15, f16, f17, _⟩ := hJ
    have hnd := hk.2
    obtain ⟨b7, e7, nb7, lb7, cb7⟩ := f7 (hd 0 (by kernel_rfl))
    obtain ⟨x9, e9, l9⟩ := f9 (hd 2 (by kernel_rfl))
    have il9 : (0 : Int) ≤ (x9 : Int) := (by omega); have iu9 : (x9 : Int) < (3 : Int) := (by omega)
    intro K hK
    simp only [puts, pz, e7, e9]
    go_simp
    all_goals (try go_wp2_with fail)
    all_goals
     apply Shut.go3 (W := W) (g := g) hK
     ·simp only [puts, pz, e7, e9]; rfl
     ·exact gbz
     ·exact sbz
     ·intro hg hs; exact ⟨Dr.step hk hg hs, unz fun h => FRow.later hg (f7 h), unz f9, fun _ => by rw [upd_same]; exact FAddr.new nb7 lb7 (cb7 _ (by omega)), unz f11, unz fun h => FRow.later hg (f12 h), unz f14, unz fun h => FAddr.later hg (f15 h), unz f16, unz f17, trivial⟩
   ·intro u L W hn hd hJ
    obtain ⟨hk, f7, f9, f10, f11, f12, f14, f15, f16, f17, _⟩ := hJ
    have hnd := hk.2
    obtain ⟨b10, o10, e10, nb10, lb10, z10, cz10⟩ := f10 (hd 3 (by kernel_rfl))
    intro K hK
    simp only [puts, pz, e10]
    go_simp
    all_goals (try go_wp2_with fail)
    all_goals
     apply Shut.go3 (W := W) (g := g) hK
     ·simp only [puts, pz, e10]; rfl
     ·exact gbz
     ·exact sbz
     ·intro hg hs; exact ⟨Dr.step hk hg hs, unz fun h => FRow.later hg (f7 h), unz f9, unz fun h => FAddr.later hg (f10 h), fun _ => by rw [upd_same]; exact ⟨_, rfl⟩, unz fun h => FRow.later hg (f12 h), unz f14, unz fun h => FAddr.later hg (f15 h), unz f16, unz f17, trivial⟩
   ·intro u L W hn hd hJ
    obtain ⟨hk, f7, f9, f10, f11, f12, f14, f15, f16, f17, _⟩ := hJ
    have hnd := hk.2
    intro K hK
    simp only [puts, pz]
    go_simp
    all_goals (try go_wp2_with fail)
    all_goals
     apply Shut.go3 (W := W) (g := g) hK
     ·simp only [puts, pz]; rfl
     ·exact gbz
     ·exact sbz
     ·intro hg hs; exact ⟨Dr.step hk hg hs, unz fun h => FRow.later hg (f7 h), unz f9, unz fun h => FAddr.later hg (f10 h), unz f11, fun _ => by rw [upd_same]; exact FRow.new (Src.lt hnd) _ _ (fun j hj => by rcases (show j = 0 ∨ j = 1 ∨ j = 2 by omega) with rfl | rfl | rfl <;> exact ⟨_, rfl⟩), unz f14, unz fun h => FAddr.later hg (f15 h), unz f16, unz f17, trivial⟩
   ·intro u L W hn hd hJ
    obtain ⟨hk, f7, f9, f10, f11, f12, f14, f15, f16, f17, _⟩ := hJ
    have hnd := hk.2
    intro K hK
    simp only [puts, pz]
    go_simp; (go_at_call 31; (with_reducible refine (spec_l01NextN g 3 3 _ hnd (by decide) (by decide) (by decide)).mono ?_); rintro e w9 ⟨⟨xx, rfl, hxx⟩, hg, hs⟩)
    all_goals (try go_wp2_with fail)
    all_goals
     apply Shut.go3 (W := W) (g := g) hK
     ·simp only [puts, pz]; rfl
     ·exact gbz
     ·exact sbz
     ·intro hg hs; exact ⟨Dr.step hk hg hs, unz fun h => FRow.later hg (f7 h), unz f9, unz fun h => FAddr.later hg (f10 h), unz f11, unz fun h => FRow.later hg (f12 h), fun _ => by rw [upd_same]; exact ⟨_, rfl, by first | assumption | omega⟩, unz fun h => FAddr.later hg (f15 h), unz f16, unz f17, trivial⟩
   ·intro u L W hn hd hJ
    obtain ⟨hk, f7, f9, f10, f11, f12, f14, f15, f16, f17, _⟩ := hJ
    have hnd := hk.2
    obtain ⟨b12, e12, nb12, lb12, cb12⟩ := f12 (hd 5 (by kernel_rfl))
    obtain ⟨x14, e14, l14⟩ := f14 (hd 7 (by kernel_rfl))
    have il14 : (0 : Int) ≤ (x14 : Int) := (by omega); have iu14 : (x14 : Int) < (3 : Int) := (by omega)
    intro K hK
    simp only [puts, pz, e12, e14]
    go_simp
    all_goals (try go_wp2_with fail)
    all_goals
     apply Shut.go3 (W := W) (g := g) hK
     ·simp only [puts, pz, e12, e14]; rfl
     ·exact gbz
     ·exact sbz
     ·intro hg hs; exact ⟨Dr.step hk hg hs, unz fun h => FRow.later hg (f7 h), unz f9, unz fun h => FAddr.later hg (f10 h), unz f11, unz fun h => FRow.later hg (f12 h), unz f14, fun _ => by rw [upd_same]; exact FAddr.new nb12 lb12 (cb12 _ (by omega)), unz f16, unz f17, trivial⟩
   ·intro u L W hn hd hJ
    obtain ⟨hk, f7, f9, f10, f11, f12, f14, f15, f16, f17, _⟩ := hJ
    have hnd := hk.2
    obtain ⟨b15, o15, e15, nb15, lb15, z15, cz15⟩ := f15 (hd 8 (by kernel_rfl))
    intro K hK
    simp only [puts, pz, e15]
    go_simp
    all_goals (try go_wp2_with fail)
    all_goals
     apply Shut.go3 (W := W) (g := g) hK
     ·simp only [puts, pz, e15]; rfl
     ·exact gbz
     ·exact sbz
     ·intro hg hs; exact ⟨Dr.step hk hg hs, unz fun h => FRow.later hg (f7 h), unz f9, unz fun h => FAddr.later hg (f10 h), unz f11, unz fun h => FRow.later hg (f12 h), unz f14, unz fun h => FAddr.later hg (f15 h), fun _ => by rw [upd_same]; exact ⟨_, rfl⟩, unz f17, trivial⟩
   ·intro u L W hn hd hJ
    obtain ⟨hk, f7, f9, f10, f11, f12, f14, f15, f16, f17, _⟩ := hJ
    have hnd := hk.2
    obtain ⟨x11, e11⟩ := f11 (hd 4 (by kernel_rfl))
    obtain ⟨x16, e16⟩ := f16 (hd 9 (by kernel_rfl))
    intro K hK
    simp only [puts, pz, e11, e16]
    go_simp
    all_goals (try go_wp2_with fail)
    all_goals
     apply Shut.go3 (W := W) (g := g) hK
     ·simp only [puts, pz, e11, e16]; rfl
     ·exact gbz
     ·exact sbz
     ·intro hg hs; exact ⟨Dr.step hk hg hs, unz fun h => FRow.later hg (f7 h), unz f9, unz fun h => FAddr.later hg (f10 h), unz f11, unz fun h => FRow.later hg (f12 h), unz f14, unz fun h => FAddr.later hg (f15 h), unz f16, fun _ => by rw [upd_same]; exact ⟨_, _, rfl⟩, trivial⟩
  ·intro u L W hJ hL
   obtain ⟨hk, f7, f9, f10, f11, f12, f14, f15, f16, f17, _⟩ := hJ
   obtain ⟨b7, e7, nb7, lb7, cb7⟩ := f7 (hL 0 (by kernel_rfl))
   obtain ⟨x9, e9, l9⟩ := f9 (hL 2 (by kernel_rfl))
   obtain ⟨b10, o10, e10, nb10, lb10, z10, cz10⟩ := f10 (hL 3 (by kernel_rfl))
   obtain ⟨x11, e11⟩ := f11 (hL 4 (by kernel_rfl))
   obtain ⟨b12, e12, nb12, lb12, cb12⟩ := f12 (hL 5 (by kernel_rfl))
   obtain ⟨x14, e14, l14⟩ := f14 (hL 7 (by kernel_rfl))
   obtain ⟨b15, o15, e15, nb15, lb15, z15, cz15⟩ := f15 (hL 8 (by kernel_rfl))
   obtain ⟨x16, e16⟩ := f16 (hL 9 (by kernel_rfl))
   obtain ⟨x17_0, x17_1, e17⟩ := f17 (hL 10 (by kernel_rfl))
   clear hHeld; have hcW := gcell hk.1; have hfW := gfroz hk.1; have hHeld := And.intro (HwE.trans hk.1) hk.2; have lW := hk.1.size
   clear f7
   clear f9
   clear f10
   clear f11
   clear f12
   clear f14
   clear f15
   clear f16
   clear f17
   simp only [puts, pz, setAll, Array.replicate, e7, e9, e10, e11, e12, e14, e15, e16, e17]
   refine rd1 11 none rfl (fun K hK => ?_)
   go_simp
   all_goals (try go_wp2_with fail)
   refine hK.out _ _ ?_ (fun hH2 => ?_)
   ·have hHg := hHeld.1; have hHs := hHeld.2; exact ⟨gwz, swz⟩
   clear hK K hHeld; (have hHeld := hH2); clear hH2; (try simp only [Act.put])
   refine wpAnyH_done (by kernel_rfl) ?_ _; (try simp only [pz])
   obtain ⟨hgE, hsE⟩ := hHeld
   go_wp2
   simp [bodyPost, results, Tryz.results51, go_sem, *]
   exact ⟨⟨_, _, rfl⟩, gwz, swz⟩
 ·have k2 : (x1 == 0) = false := beq_eq_false_iff_ne.2 k1
  go_wp2_with fail; (with_reducible refine (spec_l01NextN g 3 3 _ swz (by decide) (by decide) (by decide)).mono ?_); rintro e w2 ⟨⟨x2, rfl, hx2⟩, hg2, hs2⟩
  have hc2 := gcell hg2
  have hf2 := gfroz hg2
  have hz2 := hg2.size
  simp at hz2
  have z2 : w.heap.size < w2.heap.size := by omega
  have z3 : w1.heap.size < w2.heap.size := by omega
  have ng1 : ¬ w1.heap.size = g := by omega
  have z6 : w.heap.size < w1.heap.size + 1 := by omega
  rcases (by omega : x2 = 0 ∨ x2 = 1 ∨ x2 = 2) with rfl | rfl | rfl
  all_goals
   go_wp2_with fail; (with_reducible refine (spec_l01Next g _ _ swz (by decide)).mono ?_); rintro e w3 ⟨⟨x3, rfl, hx3⟩, hg3, hs3⟩
   have hc3 := gcell hg3
   have hf3 := gfroz hg3
   have z4 : w.heap.size < w3.heap.size := by have := hg3.size; omega
   clear hx3
   go_wp2_with fail; (with_reducible refine (spec_l01Next g _ _ swz (by decide)).mono ?_); rintro e w4 ⟨⟨x4, rfl, hx4⟩, hg4, hs4⟩
   have hc4 := gcell hg4
   have hf4 := gfroz hg4
   have z5 : w.heap.size < w4.heap.size := by have := hg4.size; omega
   clear hx4
   go_wp2
   simp [bodyPost, results, Tryz.results51, go_sem, *]
   exact ⟨⟨_, _, rfl⟩, gwz, swz⟩
end Go.Proofs.YtklbbopdmnopgaaGreatDoor
