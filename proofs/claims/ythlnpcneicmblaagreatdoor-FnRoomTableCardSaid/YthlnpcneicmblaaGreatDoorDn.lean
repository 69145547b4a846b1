/- Walks: the source of draws is made, and hands out numbers. -/
import Derived.Test.YthlnpcneicmblaaGreatDoorKp
import Derived.Test.YthlnpcneicmblaaGreatDoorA
import Derived.Deep.QuietTactic
import Derived.BigQuiet
import Derived.Deep.DeepCutAuto
import Derived.Test.YthlnpcneicmblaaGreatDoorMp
import Derived.Test.YthlnpcneicmblaaGreatDoorBs
import Derived.Laws.AppendOwnNone
namespace Go.Proofs.YthlnpcneicmblaaGreatDoor
open Go.RowKit

theorem rem_bd (a : Int) (h : 0 ≤ a) : 0 ≤ a.tmod 2147483647 ∧ a.tmod 2147483647 < 2147483647 := ⟨Int.tmod_nonneg _ h, Int.tmod_lt_of_pos _ (by decide)⟩
theorem quo_bd (a : Int) (h : 0 ≤ a) (h2 : a < 2147483647) : 0 ≤ a.tdiv 17 ∧ a.tdiv 17 < 2147483647 := by
 rw [Int.tdiv_eq_ediv_of_nonneg h]; omega
theorem rem_bd2 (a k : Int) (h : 0 ≤ a) (h2 : 1 < k) : 0 ≤ a.tmod k ∧ a.tmod k < k := ⟨Int.tmod_nonneg _ h, Int.tmod_lt_of_pos _ (by omega)⟩
/-- What a draw of a number returns. -/
def NumC (w : World) (g : Nat) (k : Int) (e : Ending) (w' : World) : Prop := (∃ x : Int, e = .returned (.int .i64 x) ∧ (1 < k → 0 ≤ x ∧ x < k)) ∧ w.grownBy w' (some g) ∧ Src w' g
set_option maxRecDepth 100000 in
set_option maxHeartbeats 4000000 in
theorem spec_l01Next (g : Nat) (k : Int) (w : World) (h : Src w g) (hk : k ≤ 9000000000000000000) :
 Calls Tryz.prog 14 #[.pointer (some ⟨g, 0, none⟩), .int .i64 k] w (NumC w g k) := by
 by_cases k1 : k ≤ 1
 ·go_enter Tryz.func14, Tryz.ntmps14
  go_wp2
  go_ret
  exact ⟨⟨_, rfl, fun k2 => absurd k2 (by omega)⟩, World.grownBy.refl _ _, h⟩
 have HS := hide h
 obtain ⟨so, n, cap, B, a, sd, hn, hrow, hB, hso, ha, hs0, hs1, c0, c1, c2, f1, f2⟩ := h
 have m1 : 0 ≤ sd * 48271 + 23 := by omega
 have hj1 : (0 : Int) ≤ (a : Int) := by omega
 by_cases hlt : a < n
 ·obtain ⟨b, o, rfl, hcb⟩ := hrow a hlt
  have cb := hcb 0 (by decide)
  simp only [vb, Nat.mul_one, Nat.add_zero] at cb
  have hbg := hso b o rfl (by omega)
  have hbg2 : ¬ b = g := by omega
  have hbg3 : ¬ g = b := by omega
  obtain ⟨B1, B2⟩ := hB a
  have hj2 : (a : Int) < (n : Int) := by omega
  have hj3 : (0 : Int) ≤ (a : Int) + 1 - 1 := by omega
  clear hrow hB hso hcb
  by_cases k4 : k ≤ 256
  ·by_cases k5 : ((a : Int) + 1) % 2 = 0
   ·go_enter Tryz.func14, Tryz.ntmps14
    go_upto_region 5 with fail
    go_quiet (fail)
    go_upto_region 6 with fail
    go_quiet (fail)
    go_upto_region 9 with fail
    go_quiet (fail)
    go_wp2
    go_ret
    exact ⟨⟨_, rfl, fun _ => ⟨Int.emod_nonneg _ (by omega), Int.emod_lt_of_pos _ (by omega)⟩⟩, by (repeat (first | exact World.grownBy.refl _ _ | refine gr_drewN ?_ _ | refine gr_set ?_)), by (repeat (first | exact HS.out | refine Src.drewN ?_ _ | refine Src.seed ?_ (by omega) (by omega) | refine Src.at ?_ (show World.cell? _ _ = some (.slice (some ⟨b, o, none⟩) n cap) by go_simp) (by omega) (by omega)))⟩
   ·go_enter Tryz.func14, Tryz.ntmps14
    go_upto_region 5 with fail
    go_quiet (fail)
    go_upto_region 6 with fail
    go_quiet (fail)
    go_wp2
    go_ret
    exact ⟨⟨_, rfl, fun _ => ⟨Int.emod_nonneg _ (by omega), Int.emod_lt_of_pos _ (by omega)⟩⟩, by (repeat (first | exact World.grownBy.refl _ _ | refine gr_drewN ?_ _ | refine gr_set ?_)), by (repeat (first | exact HS.out | refine Src.drewN ?_ _ | refine Src.seed ?_ (by omega) (by omega) | refine Src.at ?_ (show World.cell? _ _ = some (.slice (some ⟨b, o, none⟩) n cap) by go_simp) (by omega) (by omega)))⟩
  ·go_enter Tryz.func14, Tryz.ntmps14
   go_upto_region 5 with fail
   go_quiet (fail)
   go_upto_region 6 with fail
   go_quiet (fail)
   go_wp2
   go_ret
   exact ⟨⟨_, rfl, fun _ => ⟨Int.emod_nonneg _ (by omega), Int.emod_lt_of_pos _ (by omega)⟩⟩, by (repeat (first | exact World.grownBy.refl _ _ | refine gr_drewN ?_ _ | refine gr_set ?_)), by (repeat (first | exact HS.out | refine Src.drewN ?_ _ | refine Src.seed ?_ (by omega) (by omega) | refine Src.at ?_ (show World.cell? _ _ = some (.slice (some ⟨b, o, none⟩) n cap) by go_simp) (by omega) (by omega)))⟩
 ·have hj2 : (n : Int) ≤ (a : Int) := by omega
  clear hrow hB hso
  go_enter Tryz.func14, Tryz.ntmps14
  go_upto_region 5 with fail
  go_quiet (fail)
  go_wp2
  go_ret
  exact ⟨⟨_, rfl, fun _ => ⟨Int.emod_nonneg _ (by omega), Int.emod_lt_of_pos _ (by omega)⟩⟩, by (repeat (first | exact World.grownBy.refl _ _ | refine gr_drewN ?_ _ | refine gr_set ?_)), by (repeat (first | exact HS.out | refine Src.drewN ?_ _ | refine Src.seed ?_ (by omega) (by omega)))⟩
set_option maxRecDepth 100000 in
set_option maxHeartbeats 4000000 in
theorem spec_l01From (so : Option Addr) (n cap : Nat) (B : Nat → Int) (w : World) (h : RowAt w so n 1 (vb B)) (hB : ∀ i, 0 ≤ B i ∧ B i ≤ 255) (hn : n ≤ 1048576) :
 Calls Tryz.prog 11 #[.slice so n cap] w fun e w' => e = .returned (.pointer (some ⟨w.heap.size, 0, none⟩)) ∧ Src w' w.heap.size ∧ Below w.heap.size w w' := by
 have Hh := hide h
 have HB := hide hB
 have Hf := hide (show ∀ b o, so = some ⟨b, o, none⟩ → 0 < n → b < w.heap.size from fun b o e h0 => by
  obtain ⟨b', o', e', k⟩ := h 0 h0
  rw [e] at e'
  injection e' with e'
  injection e' with e1 e2
  subst e1
  exact World.block_lt_of_cell? _ _ (k 0 (by decide)))
 clear h hB
 go_enter Tryz.func11, Tryz.ntmps11
 go_wp2
 go_loopw [4] (fun i wr => ∃ k : Nat, k ≤ n ∧ i = .int .i64 k ∧ Hid (Src wr w.heap.size) ∧ Below w.heap.size w wr) (fun i _ => n - (intOf i).toNat)
 case atStart =>
  exact ⟨0, Nat.zero_le _, rfl, hide ⟨so, n, cap, B, 0, 61657, hn, RowAt.later bwz Hh.out, HB.out, Hf.out, Nat.zero_le _, by decide, by decide, by go_simp, by go_simp, by go_simp, by go_simp, by go_simp⟩, bwz⟩
 case round =>
  obtain ⟨k, hk, rfl, HS, hbl⟩ := hrel
  have hlt9 := Src.lt HS.out
  by_cases hlt : k < n
  ·by_cases h64 : k < 64
   ·obtain ⟨so', n', cap', B', a, sd, _, _, _, _, _, d1, d2, c0, c1, c2, f1, f2⟩ := HS.out
    obtain ⟨b, o, rfl, hcb⟩ := (RowAt.later hbl Hh.out) k hlt
    have cb := hcb 0 (by decide)
    simp only [vb, Nat.mul_one, Nat.add_zero] at cb
    have hbs := World.block_lt_of_cell? _ _ cb
    simp only at hbs
    have hbg := Hf.out b o rfl (by omega)
    have hn1 : ¬ b = w.heap.size := by omega
    have hn2 : ¬ w.heap.size = b := by omega
    obtain ⟨B1, B2⟩ := HB.out k
    have hi1 : (0 : Int) ≤ (k : Int) := by omega
    have hi2 : (k : Int) < (n : Int) := by omega
    clear hcb
    go_upto_region 5 with fail
    go_region
    go_wp2
    go_roundw
    case rel => exact ⟨k + 1, by omega, by go_num, hide (by repeat (first | exact HS.out | refine Src.drewN ?_ _ | refine Src.seed ?_ (by omega) (by omega))), bwz⟩
    case measure => simp [intOf]; omega
   ·have hi3 : ¬ (k : Int) < 64 := by omega
    go_wp2
    go_ret
    exact ⟨rfl, HS.out, hbl⟩
  ·obtain rfl : k = n := by omega
   go_wp2
   go_ret
   exact ⟨rfl, HS.out, hbl⟩
end Go.Proofs.YthlnpcneicmblaaGreatDoor
/- Walks: points, winds and headings are drawn. -/
namespace Go.Proofs.YthlnpcneicmblaaGreatDoor
open Go.RowKit

theorem Src.drew {W : World} {g : Nat} (h : Src W g) : Src W.drew g := h
theorem spec_l01NextN (g k : Nat) (K : Int) (w : World) (h : Src w g) (hK : K = (k : Int)) (h1 : 1 < k) (h2 : k < 1000000) :
 Calls Tryz.prog 14 #[.pointer (some ⟨g, 0, none⟩), .int .i64 K] w fun e w' => (∃ x : Nat, e = .returned (.int .i64 (x : Int)) ∧ x < k) ∧ w.grownBy w' (some g) ∧ Src w' g := by
 subst hK
 refine (spec_l01Next g _ w h (by omega)).mono ?_
 rintro e w' ⟨⟨x, rfl, hx⟩, h3, h4⟩
 obtain ⟨x1, x2⟩ := hx (by omega)
 obtain ⟨m, rfl⟩ := Int.eq_ofNat_of_zero_le x1
 exact ⟨⟨m, rfl, by omega⟩, h3, h4⟩
/-- What a draw of a pair returns. -/
def PtC (w : World) (g : Nat) (e : Ending) (w' : World) : Prop := (∃ x y : Int, e = .returned (.agg #[.int .i64 x, .int .i64 y])) ∧ w.grownBy w' (some g) ∧ Src w' g
set_option maxRecDepth 100000 in
set_option maxHeartbeats 4000000 in
theorem spec_l01DrawPoint (g : Nat) (w : World) (h : Src w g) : Calls Tryz.prog 74 #[.pointer (some ⟨g, 0, none⟩)] w (PtC w g) := by
 have ng := Src.lt h
 have nz0 : ¬ w.heap.size = g := by omega
 have nz1 : ¬ g = w.heap.size := by omega
 go_enter Tryz.func74, Tryz.ntmps74
 go_wp2_with fail; (with_reducible refine (spec_l01Next g _ _ (Src.alloc h _) (by decide)).mono ?_); rintro e w1 ⟨⟨x1, rfl, hx1⟩, hg1, hs1⟩
 have hc1 := gcell hg1
 have hf1 := gfroz hg1
 have hz1 := hg1.size
 simp at hz1
 have z1 : w.heap.size < w1.heap.size := by omega
 clear hx1
 by_cases k1 : x1 = 0
 ·subst k1
  go_upto_region 2 with fail
  have HwE : World.grownBy w w1 (some g) := gwz
  refine wp_region_held_drew (S := fun W => World.grownBy w W (some g) ∧ Src W g) (by kernel_rfl) ⟨gr_drew HwE, by assumption⟩ (fun hHeld => ?_)
  refine tkD 1 (some 8) rfl ?_; simp only [pz]
  refine tkD 6 (some 13) rfl ?_; simp only [pz]
  refine wpAnyH_inv (fuel := 1) [0, 2, 3, 4, 5, 7, 8, 9, 10] [7, 9, 10, 11, 12, 14, 15, 16, 17] (fun u L W => (World.grownBy w1 W (some g) ∧ Src W g) ∧ (L 0 → FRow g 3 (u 7) W) ∧ (L 2 → FNat 3 (u 9)) ∧ (L 3 → FAddr g (u 10) W) ∧ (L 4 → FInt (u 11)) ∧ (L 5 → FRow g 3 (u 12) W) ∧ (L 7 → FNat 3 (u 14)) ∧ (L 8 → FAddr g (u 15) W) ∧ (L 9 → FInt (u 16)) ∧ (L 10 → FAgg2 (u 17)) ∧ True) (by decide) (by kernel_rfl) (fun u L W hJ => ⟨HwE.trans hJ.1.1, hJ.1.2⟩) (fun u L hL => ⟨⟨gr_drew (World.grownBy.refl _ _), by assumption⟩, fun k => absurd k (hL 0 (by decide)), fun k => absurd k (hL 2 (by decide)), fun k => absurd k (hL 3 (by decide)), fun k => absurd k (hL 4 (by decide)), fun k => absurd k (hL 5 (by decide)), fun k => absurd k (hL 7 (by decide)), fun k => absurd k (hL 8 (by decide)), fun k => absurd k (hL 9 (by decide)), fun k => absurd k (hL 10 (by decide)), trivial⟩) ?_ ?_
  ·refine sc1 7 ?_ ?_
   rotate_left
   refine sc1 9 ?_ ?_
   rotate_left
   refine sc1 10 ?_ ?_
   rotate_left
   refine sc1 11 ?_ ?_
   rotate_left
   refine sc1 12 ?_ ?_
   rotate_left
   refine sc1 14 ?_ ?_
   rotate_left
   refine sc1 15 ?_ ?_
   rotate_left
   refine sc1 16 ?_ ?_
   rotate_left
   refine sc1 17 ?_ ?_
   rotate_left
   exact StepsH.nil
   ·intro u L W hn hd hJ
    obtain ⟨hk, f7, f9, f10, f11, f12, f14, f15, f16, f17, _⟩ := hJ
    have hnd := hk.2
    intro K hK
    simp only [puts, pz]
    go_simp
    all_goals (try go_wp2_with fail)
    all_goals
     apply Shut.go3 (W := W) (g := g) hK
     ·simp only [puts, pz]; rfl
     ·exact gbz
     ·exact sbz
     ·intro hg hs; exact ⟨Dr.step hk hg hs, fun _ => by rw [upd_same]; exact FRow.new (Src.lt hnd) _ _ (fun j hj => by rcases (show j = 0 ∨ j = 1 ∨ j = 2 by omega) with rfl | rfl | rfl <;> exact ⟨_, rfl⟩), unz f9, unz fun h => FAddr.later hg (f10 h), unz f11, unz fun h => FRow.later hg (f12 h), unz f14, unz fun h => FAddr.later hg (f15 h), unz f16, unz f17, trivial⟩
   ·intro u L W hn hd hJ
    obtain ⟨hk, f7, f9, f10, f11, f12, f14, f15, f16, f17, _⟩ := hJ
    have hnd := hk.2
    intro K hK
    simp only [puts, pz]
    go_simp; (go_at_call 14; (with_reducible refine (spec_l01NextN g 3 3 _ hnd (by decide) (by decide) (by decide)).mono ?_); rintro e w9 ⟨⟨xx, rfl, hxx⟩, hg, hs⟩)
    all_goals (try go_wp2_with fail)
    all_goals
     apply Shut.go3 (W := W) (g := g) hK
     ·simp only [puts, pz]; rfl
     ·exact gbz
     ·exact sbz
     ·intro hg hs; exact ⟨Dr.step hk hg hs, unz fun h => FRow.later hg (f7 h), fun _ => by rw [upd_same]; exact ⟨_, rfl, by first | assumption | omega⟩, unz fun h => FAddr.later hg (f10 h), unz f11, unz fun h => FRow.later hg (f12 h), unz f14, unz fun h => FAddr.later hg (f15 h), unz f16, unz f17, trivial⟩
   ·intro u L W hn hd hJ
    obtain ⟨hk, f7, f9, f10, f11, f12, f14, f15, f16, f17, _⟩ := hJ
    have hnd := hk.2
    obtain ⟨b7, e7, nb7, lb7, cb7⟩ := f7 (hd 0 (by kernel_rfl))
    obtain ⟨x9, e9, l9⟩ := f9 (hd 2 (by kernel_rfl))
    have il9 : (0 : Int) ≤ (x9 : Int) := (by omega); have iu9 : (x9 : Int) < (3 : Int) := (by omega)
    intro K hK
    simp only [puts, pz, e7, e9]
    go_simp
    all_goals (try go_wp2_with fail)
    all_goals
     apply Shut.go3 (W := W) (g := g) hK
     ·simp only [puts, pz, e7, e9]; rfl
     ·exact gbz
     ·exact sbz
     ·intro hg hs; exact ⟨Dr.step hk hg hs, unz fun h => FRow.later hg (f7 h), unz f9, fun _ => by rw [upd_same]; exact FAddr.new nb7 lb7 (cb7 _ (by omega)), unz f11, unz fun h => FRow.later hg (f12 h), unz f14, unz fun h => FAddr.later hg (f15 h), unz f16, unz f17, trivial⟩
   ·intro u L W hn hd hJ
    obtain ⟨hk, f7, f9, f10, f11, f12, f14, f15, f16, f17, _⟩ := hJ
    have hnd := hk.2
    obtain ⟨b10, o10, e10, nb10, lb10, z10, cz10⟩ := f10 (hd 3 (by kernel_rfl))
    intro K hK
    simp only [puts, pz, e10]
    go_simp
    all_goals (try go_wp2_with fail)
    all_goals
     apply Shut.go3 (W := W) (g := g) hK
     ·simp only [puts, pz, e10]; rfl
     ·exact gbz
     ·exact sbz
     ·intro hg hs; exact ⟨Dr.step hk hg hs, unz fun h => FRow.later hg (f7 h), unz f9, unz fun h => FAddr.later hg (f10 h), fun _ => by rw [upd_same]; exact ⟨_, rfl⟩, unz fun h => FRow.later hg (f12 h), unz f14, unz fun h => FAddr.later hg (f15 h), unz f16, unz f17, trivial⟩
   ·intro u L W hn hd hJ
    obtain ⟨hk, f7, f9, f10, f11, f12, f14, f15, f16, f17, _⟩ := hJ
    have hnd := hk.2
    intro K hK
    simp only [puts, pz]
    go_simp
    all_goals (try go_wp2_with fail)
    all_goals
     apply Shut.go3 (W := W) (g := g) hK
     ·simp only [puts, pz]; rfl
     ·exact gbz
     ·exact sbz
     ·intro hg hs; exact ⟨Dr.step hk hg hs, unz fun h => FRow.later hg (f7 h), unz f9, unz fun h => FAddr.later hg (f10 h), unz f11, fun _ => by rw [upd_same]; exact FRow.new (Src.lt hnd) _ _ (fun j hj => by rcases (show j = 0 ∨ j = 1 ∨ j = 2 by omega) with rfl | rfl | rfl <;> exact ⟨_, rfl⟩), unz f14, unz fun h => FAddr.later hg (f15 h), unz f16, unz f17, trivial⟩
   ·intro u L W hn hd hJ
    obtain ⟨hk, f7, f9, f10, f11, f12, f14, f15, f16, f17, _⟩ := hJ
    have hnd := hk.2
    intro K hK
    simp only [puts, pz]
    go_simp; (go_at_call 14; (with_reducible refine (spec_l01NextN g 3 3 _ hnd (by decide) (by decide) (by decide)).mono ?_); rintro e w9 ⟨⟨xx, rfl, hxx⟩, hg, hs⟩)
    all_goals (try go_wp2_with fail)
    all_goals
     apply Shut.go3 (W := W) (g := g) hK
     ·simp only [puts, pz]; rfl
     ·exact gbz
     ·exact sbz
     ·intro hg hs; exact ⟨Dr.step hk hg hs, unz fun h => FRow.later hg (f7 h), unz f9, unz fun h => FAddr.later hg (f10 h), unz f11, unz fun h => FRow.later hg (f12 h), fun _ => by rw [upd_same]; exact ⟨_, rfl, by first | assumption | omega⟩, unz fun h => FAddr.later hg (f15 h), unz f16, unz f17, trivial⟩
   ·intro u L W hn hd hJ
    obtain ⟨hk, f7, f9, f10, f11, f12, f14, f15, f16, f17, _⟩ := hJ
    have hnd := hk.2
    obtain ⟨b12, e12, nb12, lb12, cb12⟩ := f12 (hd 5 (by kernel_rfl))
    obtain ⟨x14, e14, l14⟩ := f14 (hd 7 (by kernel_rfl))
    have il14 : (0 : Int) ≤ (x14 : Int) := (by omega); have iu14 : (x14 : Int) < (3 : Int) := (by omega)
    intro K hK
    simp only [puts, pz, e12, e14]
    go_simp
    all_goals (try go_wp2_with fail)
    all_goals
     apply Shut.go3 (W := W) (g := g) hK
     ·simp only [puts, pz, e12, e14]; rfl
     ·exact gbz
     ·exact sbz
     ·intro hg hs; exact ⟨Dr.step hk hg hs, unz fun h => FRow.later hg (f7 h), unz f9, unz fun h => FAddr.later hg (f10 h), unz f11, unz fun h => FRow.later hg (f12 h), unz f14, fun _ => by rw [upd_same]; exact FAddr.new nb12 lb12 (cb12 _ (by omega)), unz f16, unz f17, trivial⟩
   ·intro u L W hn hd hJ
    obtain ⟨hk, f7, f9, f10, f11, f12, f14, f15, f16, f17, _⟩ := hJ
    have hnd := hk.2
    obtain ⟨b15, o15, e15, nb15, lb15, z15, cz15⟩ := f15 (hd 8 (by kernel_rfl))
    intro K hK
    simp only [puts, pz, e15]
    go_simp
    all_goals (try go_wp2_with fail)
    all_goals
     apply Shut.go3 (W := W) (g := g) hK
     ·simp only [puts, pz, e15]; rfl
     ·exact gbz
     ·exact sbz
     ·intro hg hs; exact ⟨Dr.step hk hg hs, unz fun h => FRow.later hg (f7 h), unz f9, unz fun h => FAddr.later hg (f10 h), unz f11, unz fun h => FRow.later hg (f12 h), unz f14, unz fun h => FAddr.later hg (f15 h), fun _ => by rw [upd_same]; exact ⟨_, rfl⟩, unz f17, trivial⟩
   ·intro u L W hn hd hJ
    obtain ⟨hk, f7, f9, f10, f11, f12, f14, f15, f16, f17, _⟩ := hJ
    have hnd := hk.2
    obtain ⟨x11, e11⟩ := f11 (hd 4 (by kernel_rfl))
    obtain ⟨x16, e16⟩ := f16 (hd 9 (by kernel_rfl))
    intro K hK
    simp only [puts, pz, e11, e16]
    go_simp
    all_goals (try go_wp2_with fail)
    all_goals
     apply Shut.go3 (W := W) (g := g) hK
     ·simp only [puts, pz, e11, e16]; rfl
     ·exact gbz
     ·exact sbz
     ·intro hg hs; exact ⟨Dr.step hk hg hs, unz fun h => FRow.later hg (f7 h), unz f9, unz fun h => FAddr.later hg (f10 h), unz f11, unz fun h => FRow.later hg (f12 h), unz f14, unz fun h => FAddr.later hg (f15 h), unz f16, fun _ => by rw [upd_same]; exact ⟨_, _, rfl⟩, trivial⟩
  ·intro u L W hJ hL
   obtain ⟨hk, f7, f9, f10, f11, f12, f14, f15, f16, f17, _⟩ := hJ
   obtain ⟨b7, e7, nb7, lb7, cb7⟩ := f7 (hL 0 (by kernel_rfl))
   obtain ⟨x9, e9, l9⟩ := f9 (hL 2 (by kernel_rfl))
   obtain ⟨b10, o10, e10, nb10, lb10, z10, cz10⟩ := f10 (hL 3 (by kernel_rfl))
   obtain ⟨x11, e11⟩ := f11 (hL 4 (by kernel_rfl))
   obtain ⟨b12, e12, nb12, lb12, cb12⟩ := f12 (hL 5 (by kernel_rfl))
   obtain ⟨x14, e14, l14⟩ := f14 (hL 7 (by kernel_rfl))
   obtain ⟨b15, o15, e15, nb15, lb15, z15, cz15⟩ := f15 (hL 8 (by kernel_rfl))
   obtain ⟨x16, e16⟩ := f16 (hL 9 (by kernel_rfl))
   obtain ⟨x17_0, x17_1, e17⟩ := f17 (hL 10 (by kernel_rfl))
   clear hHeld; have hcW := gcell hk.1; have hfW := gfroz hk.1; have hHeld := And.intro (HwE.trans hk.1) hk.2; have lW := hk.1.size
   clear f7
   clear f9
   clear f10
   clear f11
   clear f12
   clear f14
   clear f15
   clear f16
   clear f17
   simp only [puts, pz, setAll, Array.replicate, e7, e9, e10, e11, e12, e14, e15, e16, e17]
   refine rd1 11 none rfl (fun K hK => ?_)
   go_simp
   all_goals (try go_wp2_with fail)
   refine hK.out _ _ ?_ (fun hH2 => ?_)
   ·have hHg := hHeld.1; have hHs := hHeld.2; exact ⟨gwz, swz⟩
   clear hK K hHeld; (have hHeld := hH2); clear hH2; (try simp only [Act.put])
   refine wpAnyH_done (by kernel_rfl) ?_ _; (try simp only [pz])
   obtain ⟨hgE, hsE⟩ := hHeld
   go_wp2
   simp [bodyPost, results, Tryz.results74, go_sem, *]
   exact ⟨⟨_, _, rfl⟩, gwz, swz⟩
 ·have k2 : (x1 == 0) = false := beq_eq_false_iff_ne.2 k1
  go_wp2_with fail; (with_reducible refine (spec_l01NextN g 3 3 _ swz (by decide) (by decide) (by decide)).mono ?_); rintro e w2 ⟨⟨x2, rfl, hx2⟩, hg2, hs2⟩
  have hc2 := gcell hg2
  have hf2 := gfroz hg2
  have hz2 := hg2.size
  simp at hz2
  have z2 : w.heap.size < w2.heap.size := by omega
  have z3 : w1.heap.size < w2.heap.size := by omega
  have ng1 : ¬ w1.heap.size = g := by omega
  have z6 : w.heap.size < w1.heap.size + 1 := by omega
  rcases (by omega : x2 = 0 ∨ x2 = 1 ∨ x2 = 2) with rfl | rfl | rfl
  all_goals
   go_wp2_with fail; (with_reducible refine (spec_l01Next g _ _ swz (by decide)).mono ?_); rintro e w3 ⟨⟨x3, rfl, hx3⟩, hg3, hs3⟩
   have hc3 := gcell hg3
   have hf3 := gfroz hg3
   have z4 : w.heap.size < w3.heap.size := by have := hg3.size; omega
   clear hx3
   go_wp2_with fail; (with_reducible refine (spec_l01Next g _ _ swz (by decide)).mono ?_); rintro e w4 ⟨⟨x4, rfl, hx4⟩, hg4, hs4⟩
   have hc4 := gcell hg4
   have hf4 := gfroz hg4
   have z5 : w.heap.size < w4.heap.size := by have := hg4.size; omega
   clear hx4
   go_wp2
   simp [bodyPost, results, Tryz.results74, go_sem, *]
   exact ⟨⟨_, _, rfl⟩, gwz, swz⟩
end Go.Proofs.YthlnpcneicmblaaGreatDoor
namespace Go.Proofs.YthlnpcneicmblaaGreatDoor
open Go.RowKit

set_option maxRecDepth 100000 in
set_option maxHeartbeats 4000000 in
theorem spec_l08Draw (g : Nat) (w : World) (h : Src w g) : Calls Tryz.prog 23 #[.pointer (some ⟨g, 0, none⟩)] w (PtC w g) := by
 have ng := Src.lt h
 have nz0 : ¬ w.heap.size = g := by omega
 have nz1 : ¬ g = w.heap.size := by omega
 go_enter Tryz.func23, Tryz.ntmps23
 go_wp2_with fail; (with_reducible refine (spec_l01Next g _ _ swz (by decide)).mono ?_); rintro e w1 ⟨⟨x1, rfl, hx1⟩, hg1, hs1⟩; have hc1 := gcell hg1; have hf1 := gfroz hg1; have lg1 := Src.lt hs1; have nga1 : ¬ w1.heap.size = g := (by omega); have ngb1 : ¬ g = w1.heap.size := (by omega); have hzs1 := hg1.size; (try simp at hzs1); have zx1_0 : w.heap.size < w1.heap.size := (by first | omega | (simp at hzs1; omega)); have zy1_0 : w.heap.size < w1.heap.size + 1 := (by omega); have zw1_0 : ¬ w1.heap.size = w.heap.size := (by omega); have zv1_0 : ¬ w.heap.size = w1.heap.size := (by omega); have zu1_0 : w.heap.size < w1.heap.size + 1 + 1 := (by omega); have zt1_0 : ¬ w1.heap.size + 1 = w.heap.size := (by omega); have zr1_0 : ¬ w.heap.size = w1.heap.size + 1 := (by omega)
 go_wp2_with fail; (with_reducible refine (spec_l01Next g _ _ swz (by decide)).mono ?_); rintro e w2 ⟨⟨x2, rfl, hx2⟩, hg2, hs2⟩; have hc2 := gcell hg2; have hf2 := gfroz hg2; have lg2 := Src.lt hs2; have nga2 : ¬ w2.heap.size = g := (by omega); have ngb2 : ¬ g = w2.heap.size := (by omega); have hzs2 := hg2.size; (try simp at hzs2); have zx2_0 : w.heap.size < w2.heap.size := (by first | omega | (simp at hzs2; omega)); have zy2_0 : w.heap.size < w2.heap.size + 1 := (by omega); have zw2_0 : ¬ w2.heap.size = w.heap.size := (by omega); have zv2_0 : ¬ w.heap.size = w2.heap.size := (by omega); have zu2_0 : w.heap.size < w2.heap.size + 1 + 1 := (by omega); have zt2_0 : ¬ w2.heap.size + 1 = w.heap.size := (by omega); have zr2_0 : ¬ w.heap.size = w2.heap.size + 1 := (by omega)
 go_wp2_with fail; (with_reducible refine (spec_l01Next g _ _ swz (by decide)).mono ?_); rintro e w3 ⟨⟨x3, rfl, hx3⟩, hg3, hs3⟩; have hc3 := gcell hg3; have hf3 := gfroz hg3; have lg3 := Src.lt hs3; have nga3 : ¬ w3.heap.size = g := (by omega); have ngb3 : ¬ g = w3.heap.size := (by omega); have hzs3 := hg3.size; (try simp at hzs3); have zx3_0 : w.heap.size < w3.heap.size := (by first | omega | (simp at hzs3; omega)); have zy3_0 : w.heap.size < w3.heap.size + 1 := (by omega); have zw3_0 : ¬ w3.heap.size = w.heap.size := (by omega); have zv3_0 : ¬ w.heap.size = w3.heap.size := (by omega); have zu3_0 : w.heap.size < w3.heap.size + 1 + 1 := (by omega); have zt3_0 : ¬ w3.heap.size + 1 = w.heap.size := (by omega); have zr3_0 : ¬ w.heap.size = w3.heap.size + 1 := (by omega); have zx3_1 : w2.heap.size < w3.heap.size := (by first | omega | (simp at hzs3; omega)); have zy3_1 : w2.heap.size < w3.heap.size + 1 := (by omega); have zw3_1 : ¬ w3.heap.size = w2.heap.size := (by omega); have zv3_1 : ¬ w2.heap.size = w3.heap.size := (by omega); have zu3_1 : w2.heap.size < w3.heap.size + 1 + 1 := (by omega); have zt3_1 : ¬ w3.heap.size + 1 = w2.heap.size := (by omega); have zr3_1 : ¬ w2.heap.size = w3.heap.size + 1 := (by omega)
 obtain ⟨p1, p2⟩ := hx1 (by decide)
 obtain ⟨p3, p4⟩ := hx2 (by decide)
 clear hx1 hx2 hx3
 by_cases k1 : x3 = 0
 ·subst k1
  go_wp2_with fail; (with_reducible refine (spec_l01Next g _ _ swz (by decide)).mono ?_); rintro e w4 ⟨⟨x4, rfl, hx4⟩, hg4, hs4⟩; have hc4 := gcell hg4; have hf4 := gfroz hg4; have lg4 := Src.lt hs4; have nga4 : ¬ w4.heap.size = g := (by omega); have ngb4 : ¬ g = w4.heap.size := (by omega); have hzs4 := hg4.size; (try simp at hzs4); have zx4_0 : w.heap.size < w4.heap.size := (by first | omega | (simp at hzs4; omega)); have zy4_0 : w.heap.size < w4.heap.size + 1 := (by omega); have zw4_0 : ¬ w4.heap.size = w.heap.size := (by omega); have zv4_0 : ¬ w.heap.size = w4.heap.size := (by omega); have zu4_0 : w.heap.size < w4.heap.size + 1 + 1 := (by omega); have zt4_0 : ¬ w4.heap.size + 1 = w.heap.size := (by omega); have zr4_0 : ¬ w.heap.size = w4.heap.size + 1 := (by omega); have zx4_1 : w2.heap.size < w4.heap.size := (by first | omega | (simp at hzs4; omega)); have zy4_1 : w2.heap.size < w4.heap.size + 1 := (by omega); have zw4_1 : ¬ w4.heap.size = w2.heap.size := (by omega); have zv4_1 : ¬ w2.heap.size = w4.heap.size := (by omega); have zu4_1 : w2.heap.size < w4.heap.size + 1 + 1 := (by omega); have zt4_1 : ¬ w4.heap.size + 1 = w2.heap.size := (by omega); have zr4_1 : ¬ w2.heap.size = w4.heap.size + 1 := (by omega)
  go_wp2_with fail; (with_reducible refine (spec_l01Next g _ _ swz (by decide)).mono ?_); rintro e w5 ⟨⟨x5, rfl, hx5⟩, hg5, hs5⟩; have hc5 := gcell hg5; have hf5 := gfroz hg5; have lg5 := Src.lt hs5; have nga5 : ¬ w5.heap.size = g := (by omega); have ngb5 : ¬ g = w5.heap.size := (by omega); have hzs5 := hg5.size; (try simp at hzs5); have zx5_0 : w.heap.size < w5.heap.size := (by first | omega | (simp at hzs5; omega)); have zy5_0 : w.heap.size < w5.heap.size + 1 := (by omega); have zw5_0 : ¬ w5.heap.size = w.heap.size := (by omega); have zv5_0 : ¬ w.heap.size = w5.heap.size := (by omega); have zu5_0 : w.heap.size < w5.heap.size + 1 + 1 := (by omega); have zt5_0 : ¬ w5.heap.size + 1 = w.heap.size := (by omega); have zr5_0 : ¬ w.heap.size = w5.heap.size + 1 := (by omega); have zx5_1 : w2.heap.size < w5.heap.size := (by first | omega | (simp at hzs5; omega)); have zy5_1 : w2.heap.size < w5.heap.size + 1 := (by omega); have zw5_1 : ¬ w5.heap.size = w2.heap.size := (by omega); have zv5_1 : ¬ w2.heap.size = w5.heap.size := (by omega); have zu5_1 : w2.heap.size < w5.heap.size + 1 + 1 := (by omega); have zt5_1 : ¬ w5.heap.size + 1 = w2.heap.size := (by omega); have zr5_1 : ¬ w2.heap.size = w5.heap.size + 1 := (by omega)
  obtain ⟨p5, p6⟩ := hx4 (by decide)
  obtain ⟨p7, p8⟩ := hx5 (by decide)
  clear hx4 hx5
  go_upto_region 4 with fail
  obtain ⟨wG, hG⟩ : ∃ W, W = (w5.setCell ⟨w2.heap.size, 0, none⟩ (.int .i64 (x4 - 1000))).setCell ⟨w2.heap.size, 1, none⟩ (.int .i64 (x5 - 1000)) := ⟨_, rfl⟩
  have gG : w.grownBy wG (some g) := by rw [hG]; exact gwz
  have sG : Src wG g := by rw [hG]; exact swz
  have c0 : wG.cell? ⟨w2.heap.size, 0, none⟩ = some (.int .i64 (x4 - 1000)) := by rw [hG]; go_simp
  have c1 : wG.cell? ⟨w2.heap.size, 1, none⟩ = some (.int .i64 (x5 - 1000)) := by rw [hG]; go_simp
  have f1 : wG.frozen? ⟨w2.heap.size, 1, none⟩ = false := by rw [hG]; go_simp
  have r0 : wG.cell? ⟨w.heap.size, 0, none⟩ = some (.int .i64 0) := by rw [hG]; go_simp
  have r1 : wG.cell? ⟨w.heap.size, 1, none⟩ = some (.int .i64 0) := by rw [hG]; go_simp
  have s0 : wG.frozen? ⟨w.heap.size, 0, none⟩ = false := by rw [hG]; go_simp
  have s1 : wG.frozen? ⟨w.heap.size, 1, none⟩ = false := by rw [hG]; go_simp
  rw [← hG]
  clear hG
  rcases (by omega : ¬ x4 - 1000 = 0 ∨ (x4 = 1000 ∧ ¬ x5 - 1000 = 0) ∨ (x4 = 1000 ∧ x5 = 1000)) with e | ⟨rfl, e⟩ | ⟨rfl, rfl⟩
  all_goals
   go_wp2
   simp [bodyPost, results, Tryz.results23, go_sem, *]
   exact ⟨⟨_, _, rfl⟩, gwz, swz⟩
 ·have k2 : (x3 == 0) = false := beq_eq_false_iff_ne.2 k1
  rcases (by omega : ¬ x1 - 3 = 0 ∨ (x1 = 3 ∧ ¬ x2 - 3 = 0) ∨ (x1 = 3 ∧ x2 = 3)) with e | ⟨rfl, e⟩ | ⟨rfl, rfl⟩
  all_goals
   go_wp2
   simp [bodyPost, results, Tryz.results23, go_sem, *]
   exact ⟨⟨_, _, rfl⟩, gwz, swz⟩
set_option maxRecDepth 100000 in
set_option maxHeartbeats 4000000 in
theorem spec_l08DrawAny (g : Nat) (w : World) (h : Src w g) : Calls Tryz.prog 12 #[.pointer (some ⟨g, 0, none⟩)] w (PtC w g) := by
 have ng := Src.lt h
 have nz0 : ¬ w.heap.size = g := by omega
 have nz1 : ¬ g = w.heap.size := by omega
 go_enter Tryz.func12, Tryz.ntmps12
 go_wp2_with fail; (with_reducible refine (spec_l01Next g _ _ swz (by decide)).mono ?_); rintro e w1 ⟨⟨x1, rfl, hx1⟩, hg1, hs1⟩; have hc1 := gcell hg1; have hf1 := gfroz hg1; have lg1 := Src.lt hs1; have nga1 : ¬ w1.heap.size = g := (by omega); have ngb1 : ¬ g = w1.heap.size := (by omega); have hzs1 := hg1.size; (try simp at hzs1); have zx1_0 : w.heap.size < w1.heap.size := (by first | omega | (simp at hzs1; omega)); have zy1_0 : w.heap.size < w1.heap.size + 1 := (by omega); have zw1_0 : ¬ w1.heap.size = w.heap.size := (by omega); have zv1_0 : ¬ w.heap.size = w1.heap.size := (by omega); have zu1_0 : w.heap.size < w1.heap.size + 1 + 1 := (by omega); have zt1_0 : ¬ w1.heap.size + 1 = w.heap.size := (by omega); have zr1_0 : ¬ w.heap.size = w1.heap.size + 1 := (by omega)
 clear hx1
 by_cases k1 : x1 = 0
 ·subst k1
  go_wp2_with fail; (with_reducible refine (spec_l01NextN g 3 3 _ swz (by decide) (by decide) (by decide)).mono ?_); rintro e w2 ⟨⟨x2, rfl, hx2⟩, hg2, hs2⟩; have hc2 := gcell hg2; have hf2 := gfroz hg2; have lg2 := Src.lt hs2; have nga2 : ¬ w2.heap.size = g := (by omega); have ngb2 : ¬ g = w2.heap.size := (by omega); have hzs2 := hg2.size; (try simp at hzs2); have zx2_0 : w.heap.size < w2.heap.size := (by first | omega | (simp at hzs2; omega)); have zy2_0 : w.heap.size < w2.heap.size + 1 := (by omega); have zw2_0 : ¬ w2.heap.size = w.heap.size := (by omega); have zv2_0 : ¬ w.heap.size = w2.heap.size := (by omega); have zu2_0 : w.heap.size < w2.heap.size + 1 + 1 := (by omega); have zt2_0 : ¬ w2.heap.size + 1 = w.heap.size := (by omega); have zr2_0 : ¬ w.heap.size = w2.heap.size + 1 := (by omega); have zx2_1 : w1.heap.size < w2.heap.size := (by first | omega | (simp at hzs2; omega)); have zy2_1 : w1.heap.size < w2.heap.size + 1 := (by omega); have zw2_1 : ¬ w2.heap.size = w1.heap.size := (by omega); have zv2_1 : ¬ w1.heap.size = w2.heap.size := (by omega); have zu2_1 : w1.heap.size < w2.heap.size + 1 + 1 := (by omega); have zt2_1 : ¬ w2.heap.size + 1 = w1.heap.size := (by omega); have zr2_1 : ¬ w1.heap.size = w2.heap.size + 1 := (by omega)
  rcases (by omega : x2 = 0 ∨ x2 = 1 ∨ x2 = 2) with rfl | rfl | rfl
  all_goals
   go_wp2
   simp [bodyPost, results, Tryz.results12, go_sem, *]
   exact ⟨⟨_, _, rfl⟩, gwz, swz⟩
 ·have k2 : (x1 == 0) = false := beq_eq_false_iff_ne.2 k1
  go_wp2_with fail; (with_reducible refine (spec_l08Draw g _ swz).mono ?_); rintro e w2 ⟨⟨a2, b2, rfl⟩, hg2, hs2⟩; have hc2 := gcell hg2; have hf2 := gfroz hg2; have lg2 := Src.lt hs2; have nga2 : ¬ w2.heap.size = g := (by omega); have ngb2 : ¬ g = w2.heap.size := (by omega); have hzs2 := hg2.size; (try simp at hzs2); have zx2_0 : w.heap.size < w2.heap.size := (by first | omega | (simp at hzs2; omega)); have zy2_0 : w.heap.size < w2.heap.size + 1 := (by omega); have zw2_0 : ¬ w2.heap.size = w.heap.size := (by omega); have zv2_0 : ¬ w.heap.size = w2.heap.size := (by omega); have zu2_0 : w.heap.size < w2.heap.size + 1 + 1 := (by omega); have zt2_0 : ¬ w2.heap.size + 1 = w.heap.size := (by omega); have zr2_0 : ¬ w.heap.size = w2.heap.size + 1 := (by omega)
  go_wp2
  simp [bodyPost, results, Tryz.results12, go_sem, *]
  exact ⟨⟨_, _, rfl⟩, gwz, swz⟩
end Go.Proofs.YthlnpcneicmblaaGreatDoor
/- Walks: hulls are drawn. -/
namespace Go.Proofs.YthlnpcneicmblaaGreatDoor
open Go.RowKit

/-- What a draw of a hull returns. -/
def HuD (w : World) (g : Nat) (e : Ending) (w' : World) : Prop := (∃ a b c d l : Int, e = .returned (.agg #[.int .i64 a, .int .i64 b, .int .i64 c, .int .i64 d, .int .i64 l])) ∧ w.grownBy w' (some g) ∧ Src w' g
end Go.Proofs.YthlnpcneicmblaaGreatDoor
/- Walks: the law's bound on codes; the draws that the laws begin with. -/
namespace Go.Proofs.YthlnpcneicmblaaGreatDoor
open Go.RowKit

theorem laws_big (so : Option Addr) (n cap : Nat) (w : World) (hn : n ≤ 9223372036854775807) :
 Calls Tryz.prog 4 #[.slice so n cap] w fun e w' => e = .returned (.bool (decide (4096 < n))) ∧ w = w' := by
 by_cases h : 4096 < n
 ·go_enter Tryz.func4, Tryz.ntmps4
  go_wp2
  go_ret
  exact ⟨ret_b (by rw [decide_eq_decide]; omega), rfl⟩
 ·go_enter Tryz.func4, Tryz.ntmps4
  go_wp2
  go_ret
  exact ⟨ret_b (by rw [decide_eq_decide]; omega), rfl⟩
theorem below_gr {w W W' : World} {B g : Nat} (h : Below B w W) (k : W.grownBy W' (some g)) (hB : B ≤ W.heap.size) (hg : B ≤ g) : Below B w W' :=
 h.trans (below_grown' k hB hg)
end Go.Proofs.YthlnpcneicmblaaGreatDoor
/- Walks: a code is changed into another; a wind and points are drawn. -/
namespace Go.Proofs.YthlnpcneicmblaaGreatDoor
open Go.RowKit

theorem own1_of_row {w : World} {B : Nat} {e : TypeId} {v : Value} {L : List Int} {n : Nat} (hn : n = L.length) (h : w.ownsRow B e 1 v n (L.map (Value.int .u8))) : ∃ so cap, v = .slice so n cap ∧ RowAt w so n 1 (vb fun i => L[i]?.getD 0) := by
 subst hn
 have hc := fun g (hg : v.ownBlock = some g) => World.ownsRow.cells h hg
 obtain ⟨_, ⟨rfl, h0⟩ | ⟨g, cap, cur, rfl, hB, hg, hn, _, hsz, htk⟩⟩ := h
 ·exact ⟨none, 0, by rw [h0], fun i hi => absurd hi (by omega)⟩
 ·refine ⟨some ⟨g, 0, none⟩, cap, rfl, fun i hi => ⟨g, 0, rfl, fun j hj => ?_⟩⟩
  obtain rfl : j = 0 := by omega
  have := hc g rfl i (.int .u8 (L[i]?.getD 0)) (by rw [List.getElem?_map, List.getElem?_eq_getElem hi]; rfl)
  rw [Addr.add_lit] at this
  simpa [vb] using this
theorem byte_all {L : List Int} (h : ∀ x ∈ L, 0 ≤ x ∧ x ≤ 255) (i : Nat) : 0 ≤ L[i]?.getD 0 ∧ L[i]?.getD 0 ≤ 255 := by
 rcases Nat.lt_or_ge i L.length with k | k
 ·rw [List.getElem?_eq_getElem k]; exact h _ (List.getElem_mem k)
 ·rw [List.getElem?_eq_none k]; exact ⟨by decide, by decide⟩
/-- The bytes of a code, as a list. -/
def bl (B : Nat → Int) (n : Nat) : List Int := (List.range n).map B
theorem bl_len (B : Nat → Int) (n : Nat) : (bl B n).length = n := by simp [bl]
theorem bl_cells {w : World} {ad : Addr} {n : Nat} {B : Nat → Int} (r : RowAt w (some ad) n 1 (vb B)) : ∀ (j : Nat) (u : Value), ((bl B n).map (Value.int .u8))[j]? = some u → w.cell? (ad.add j) = some u := fun j u hj => by
 have hjn : j < n := by
  rcases Nat.lt_or_ge j n with k | k
  ·exact k
  ·rw [List.getElem?_eq_none (by simpa [bl] using k)] at hj; cases hj
 obtain ⟨b, o, e, k⟩ := r j hjn
 injection e with e
 subst e
 have h1 := k 0 (by decide)
 have h2 : u = .int .u8 (B j) := by
  rw [bl, List.map_map, List.getElem?_map, List.getElem?_range hjn] at hj
  simpa using hj.symm
 rw [Addr.add_lit, h2]
 simpa [vb] using h1
theorem Src.keepB {W W' : World} {g : Nat} (hb : Below (g + 1) W W') (h : Src W g) : Src W' g := by
 obtain ⟨so, n, cap, B, a, sd, h0, hr, hB, h3, h4, h5, h6, c0, c1, c2, f1, f2⟩ := h
 have cc := (bcell hb).1
 have cf := (bcell hb).2
 refine ⟨so, n, cap, B, a, sd, h0, fun i hi => ?_, hB, h3, h4, h5, h6, (cc _ _ (by omega)).trans c0, (cc _ _ (by omega)).trans c1, (cc _ _ (by omega)).trans c2, (cf _ _ (by omega)).trans f1, (cf _ _ (by omega)).trans f2⟩
 obtain ⟨b, o, e, k⟩ := hr i hi
 exact ⟨b, o, e, fun j hj => (cc _ _ (by have := h3 b o e (by omega); omega)).trans (k j hj)⟩
end Go.Proofs.YthlnpcneicmblaaGreatDoor
namespace Go.Proofs.YthlnpcneicmblaaGreatDoor
open Go.RowKit

theorem own_kept {w W : World} {B g : Nat} {e : TypeId} {size : Nat} {v : Value} {n : Nat} {xs : List Value} (h : w.ownsRow B e size v n xs) (hg : w.grownBy W (some g)) (hl : g < B) : W.ownsRow B e size v n xs :=
 h.kept hg (by
  rcases h.2 with ⟨rfl, _⟩ | ⟨k, cap, cur, rfl, hB, _⟩
  ·exact .inl rfl
  ·exact .inr (by simp [Value.ownBlock]; omega))
theorem made_at (m j : Nat) (hj : j < m) : (madeCells #[Value.int .i64 0, Value.int .i64 0] m)[j]? = some (.int .i64 0) := by
 rcases (by omega : j % 2 = 0 ∨ j % 2 = 1) with k | k <;> simp [madeCells, hj, k]
theorem made_row {W : World} {e : TypeId} {m s b : Nat} (hs : s = 2) (hb : b = W.heap.size) : RowAt (W.alloc (.cells (madeCells #[.int .i64 0, .int .i64 0] (m * s)) e)) (some ⟨b, 0, none⟩) m 2 (v2 (fun _ => 0) fun _ => 0) := by
 subst hs hb
 refine own_row fun i hi j hj => ?_
 rw [World.cell?_alloc_new]
 refine (made_at (m * 2) (i * 2 + j) (by omega)).trans (congrArg some ?_)
 simp [v2]
theorem row_two {W : World} {so : Option Addr} {n c r : Nat} {V : Nat → Nat → Value} {x y : Value} (h : RowAt W so n c V) (hr : ∀ b o, so = some ⟨b, o, none⟩ → b ≠ r) : RowAt ((W.setCell ⟨r, 0, none⟩ x).setCell ⟨r, 1, none⟩ y) so n c V :=
 row_far (row_far h fun b o e _ => hr b o e) fun b o e _ => hr b o e
theorem ownL_row {w W : World} {B g : Nat} {L : List (Int × Int)} {so : Option Addr} (h : OwnL w B L so) (hg : w.grownBy W (some g)) (hl : g < B) : RowAt W so L.length 2 (v2 (LX L) (LY L)) := by
 obtain ⟨h1, ⟨rfl, h2⟩ | ⟨g', rfl, h3, h4, _⟩⟩ := h
 ·exact fun i hi => absurd hi (by omega)
 ·exact own_row fun i hi j hj => (gcell hg g' _ h4 (by omega)).trans (row_own h1 hi hj)
theorem ownL_far {w : World} {B : Nat} {L : List (Int × Int)} {so : Option Addr} (h : OwnL w B L so) : ∀ b o, so = some ⟨b, o, none⟩ → B ≤ b := fun b o e => by
 obtain ⟨_, ⟨rfl, _⟩ | ⟨g', rfl, h3, _⟩⟩ := h
 ·cases e
 ·injection e with e; injection e with e1 e2; omega
end Go.Proofs.YthlnpcneicmblaaGreatDoor
