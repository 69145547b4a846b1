/- Walks: valid tracks, and legs. -/
import Derived.Test.YthlnpcneicmblaaGreatDoorBs
import Derived.Test.YthlnpcneicmblaaGreatDoorBase
import Derived.Test.YthlnpcneicmblaaGreatDoorA
import Derived.Deep.RegionHeld3
import Derived.Deep.DeepCutAuto
import Derived.Test.YthlnpcneicmblaaGreatDoorTb0
import Derived.Test.YthlnpcneicmblaaGreatDoorC
namespace Go.Proofs.YthlnpcneicmblaaGreatDoor
open Go.RowKit

set_option maxHeartbeats 1000000 in
theorem impl_legAt (b o n cap : Nat) (T X Y : Nat → Int) (t : Int) (w : World) (h : RowAt w (some ⟨b, o, none⟩) n 3 (v3 T X Y)) (hn : n ≤ 40) (h2 : 2 ≤ n) :
 Calls Tryz.prog 87 #[.agg #[.slice (some ⟨b, o, none⟩) n cap], .int .i64 t] w fun e w' => e = .returned (.int .i64 (legF T t (n - 2) : Nat)) ∧ Below w.heap.size w w' := by
 have hbs := World.block_lt_of_cell? _ _ (h.on3 0 (by omega)).1
 simp only at hbs
 have hm : ((n : Int) - 2) = ((n - 2 : Nat) : Int) := by omega
 go_enter Tryz.func87, Tryz.ntmps87
 go_wp2
 go_loop [5] (fun i => ∃ k : Nat, k ≤ n - 2 ∧ i = .int .i64 k ∧ Hid (legF T t (n - 2) = legF T t k)) (fun i => (intOf i).toNat)
 case atStart => exact ⟨n - 2, Nat.le_refl _, by go_num, hide rfl⟩
 case round =>
  obtain ⟨k, hk, rfl, He⟩ := hrel
  clear hm
  obtain ⟨c0, c1, c2⟩ := h.on3 k (by omega)
  by_cases h0 : 0 < k
  ·by_cases ht : t < T k
   ·have Hs := hide (legF_yes h0 ht)
    go_wp2
    go_round
    case rel => exact ⟨k - 1, by omega, by go_num, hide (He.out.trans Hs.out)⟩
    case measure => simp [intOf]; omega
   ·have Hs := hide (legF_no (T := T) (t := t) (k := k) (.inr (by omega)))
    go_wp2
    go_ret
    exact ⟨ret_i (by rw [He.out, Hs.out]), bwz⟩
  ·obtain rfl : k = 0 := by omega
   go_wp2
   go_ret
   exact ⟨ret_i (by rw [He.out]; rfl), bwz⟩
set_option maxHeartbeats 1000000 in
theorem spec_l03Leg (b o n cap : Nat) (T X Y : Nat → Int) (t : Int) (w : World) (h : RowAt w (some ⟨b, o, none⟩) n 3 (v3 T X Y)) (hn : n ≤ 40) (h2 : 2 ≤ n) :
 Calls Tryz.prog 95 #[.agg #[.slice (some ⟨b, o, none⟩) n cap], .int .i64 t] w fun e w' => e = .returned (.int .i64 (legF T t (n - 2) : Nat)) ∧ Below w.heap.size w w' := by
 have hbs := World.block_lt_of_cell? _ _ (h.on3 0 (by omega)).1
 simp only at hbs
 go_enter Tryz.func95, Tryz.ntmps95
 go_wp2
 go_loop [5, 6] (fun l i => ∃ k : Nat, k ≤ n - 1 ∧ i = .int .i64 k ∧ ∃ q : Nat, q ≤ n ∧ l = .int .i64 q ∧ Hid (q = legF T t (k - 1))) (fun _ i => n - (intOf i).toNat)
 case atStart => exact ⟨0, Nat.zero_le _, rfl, 0, Nat.zero_le _, rfl, hide rfl⟩
 case round =>
  obtain ⟨k, hk, rfl, q, hq, rfl, He⟩ := hrel
  by_cases hlt : k + 1 < n
  ·obtain ⟨c0, c1, c2⟩ := h.on3 k (by omega)
   by_cases ht : T k ≤ t
   ·have Hs := hide (legF_no (T := T) (t := t) (k := k) (.inr ht))
    go_wp2
    go_round
    case rel => exact ⟨k + 1, by omega, by go_num, k, by omega, rfl, hide (by rw [Nat.add_sub_cancel]; exact Hs.out.symm)⟩
    case measure => simp [intOf]; omega
   ·have Hs : Hid (q = legF T t k) := hide (by
     by_cases h0 : 0 < k
     ·rw [legF_yes h0 (by omega)]; exact He.out
     ·obtain rfl : k = 0 := by omega
      exact He.out)
    go_wp2
    go_round
    case rel => exact ⟨k + 1, by omega, by go_num, q, hq, rfl, hide (by rw [Nat.add_sub_cancel]; exact Hs.out)⟩
    case measure => simp [intOf]; omega
  ·obtain rfl : k = n - 1 := by omega
   go_wp2
   go_ret
   exact ⟨ret_i (by rw [He.out]; congr 1), bwz⟩
end Go.Proofs.YthlnpcneicmblaaGreatDoor
/- Walks of the functions of winds and hulls that the laws name. -/
namespace Go.Proofs.YthlnpcneicmblaaGreatDoor
open Go.RowKit

end Go.Proofs.YthlnpcneicmblaaGreatDoor
/- Walks: when a track lasts; its ways and headings; the tack at a time. -/
namespace Go.Proofs.YthlnpcneicmblaaGreatDoor
open Go.RowKit

/-- The way of the leg at a time: the difference of a coordinate. -/
def wayX (n : Nat) (T X : Nat → Int) (t : Int) : Int := X (legF T t (n - 2) + 1) - X (legF T t (n - 2))
set_option maxRecDepth 100000 in
set_option maxHeartbeats 1000000 in
theorem impl_lasts (b o n cap : Nat) (T X Y : Nat → Int) (t : Int) (w : World) (h : RowAt w (some ⟨b, o, none⟩) n 3 (v3 T X Y)) (hv : isTr n T X Y = true) :
 Calls Tryz.prog 111 #[.agg #[.slice (some ⟨b, o, none⟩) n cap], .int .i64 t] w fun e w' => e = .returned (.bool (inB t (T 0) (T (n - 1)))) ∧ Below w.heap.size w w' := by
 obtain ⟨hn2, hn40, _⟩ := isTr_t hv
 have hbs := World.block_lt_of_cell? _ _ (h.on3 0 (by omega)).1
 simp only at hbs
 have c0 := (h.on3 0 (by omega)).1
 have c1 := (h.on3 (n - 1) (by omega)).1
 clear h hv
 obtain ⟨j, hj⟩ : ∃ j, n - 1 = j := ⟨_, rfl⟩
 have Ht := hide (show T (n - 1) = T j by rw [hj])
 rw [hj] at c1
 simp only [Nat.zero_mul, Nat.add_zero] at c0
 have hj1 : (0 : Int) ≤ (j : Int) := by omega
 have hj2 : (j : Int) < (n : Int) := by omega
 have hj3 : (0 : Int) < (n : Int) := by omega
 have hj6 : 0 < n := by omega
 have we : IntKind.i64.wrap ((n : Int) - 1) = (j : Int) := by rw [show (n : Int) - 1 = (j : Int) by omega]; exact IntWalk.i64_in _ (by omega)
 clear hj
 go_enter Tryz.func111, Tryz.ntmps111
 go_upto_region 1 with fail
 refine wp_region_held_drew (S := (fun W => W.cell? ⟨w.heap.size, 0, none⟩ = some ((.slice (some ⟨b, o, none⟩) n cap)) ∧ W.cell? ⟨b, o, none⟩ = some (.int .i64 (T 0)) ∧ W.cell? ⟨b, o + j * 3, none⟩ = some (.int .i64 (T j)) ∧ Below w.heap.size w W ∧ w.heap.size + 1 ≤ W.heap.size)) (by kernel_rfl) ?_ (fun hHeld => ?_)
 ·exact ⟨(by go_simp; done), (by go_simp; done), (by go_simp; done), bwz, (by first | (simp; done) | (simp; omega) | omega)⟩
 refine tkD 0 (some 5) rfl ?_; simp only [pz]
 refine tkD 1 (some 6) rfl ?_; simp only [pz]
 refine tkD 2 (some 7) rfl ?_; simp only [pz]
 refine tkD 3 (some 8) rfl ?_; simp only [pz]
 refine tkD 4 (some 9) rfl ?_; simp only [pz]
 refine tkD 5 (some 10) rfl ?_; simp only [pz]
 refine tkD 6 (some 11) rfl ?_; simp only [pz]
 refine tkD 7 (some 12) rfl ?_; simp only [pz]
 refine tkD 8 (some 13) rfl ?_; simp only [pz]
 refine tkD 9 (some 14) rfl ?_; simp only [pz]
 refine tkD 10 (some 15) rfl ?_; simp only [pz]
 refine tkD 11 (some 16) rfl ?_; simp only [pz]
 refine tkD 12 (some 17) rfl ?_; simp only [pz]
 refine tkD 13 (some 18) rfl ?_; simp only [pz]
 refine tkD 14 (some 19) rfl ?_; simp only [pz]
 refine rd1 15 (some 20) rfl (fun K hK => ?_)
 go_simp; (go_at_call 41; (with_reducible refine (impl_within _ _ _ _).mono ?_); rintro e w9 ⟨rfl, rfl⟩)
 all_goals (try go_wp2_with fail)
 refine hK.out _ _ ?_ (fun hH2 => ?_)
 ·(try dsimp only); first | (obtain ⟨k1, k2, k3, kB, kz⟩ := hHeld; exact ⟨cell_later hb k1, cell_later hb k2, cell_later hb k3, bstep kB hb, bsize kz hb⟩) | (obtain ⟨k1, k2, k3, kB, kz⟩ := hHeld; exact ⟨k1, k2, k3, kB, kz⟩)
 clear hK K hHeld; (have hHeld := hH2); clear hH2; (try simp only [pz])
 refine tkD 16 (some 4) rfl ?_; simp only [pz]
 refine wpAnyH_done (by kernel_rfl) ?_ _; (try simp only [pz])
 obtain ⟨k1, k2, k3, kB, kz⟩ := hHeld
 go_wp2
 go_ret
 exact ⟨ret_b (by rw [Ht.out]), kB⟩
set_option maxRecDepth 100000 in
set_option maxHeartbeats 1000000 in
theorem spec_l03Lasts (b o n cap : Nat) (T X Y : Nat → Int) (t : Int) (w : World) (h : RowAt w (some ⟨b, o, none⟩) n 3 (v3 T X Y)) (hv : isTr n T X Y = true) :
 Calls Tryz.prog 115 #[.agg #[.slice (some ⟨b, o, none⟩) n cap], .int .i64 t] w fun e w' => e = .returned (.bool (inB t (T 0) (T (n - 1)))) ∧ Below w.heap.size w w' := by
 obtain ⟨hn2, hn40, _⟩ := isTr_t hv
 have hbs := World.block_lt_of_cell? _ _ (h.on3 0 (by omega)).1
 simp only at hbs
 have c0 := (h.on3 0 (by omega)).1
 have c1 := (h.on3 (n - 1) (by omega)).1
 clear h hv
 obtain ⟨j, hj⟩ : ∃ j, n - 1 = j := ⟨_, rfl⟩
 have Ht := hide (show T (n - 1) = T j by rw [hj])
 rw [hj] at c1
 simp only [Nat.zero_mul, Nat.add_zero] at c0
 have hj1 : (0 : Int) ≤ (j : Int) := by omega
 have hj2 : (j : Int) < (n : Int) := by omega
 have hj3 : (0 : Int) < (n : Int) := by omega
 have hj6 : 0 < n := by omega
 have we : IntKind.i64.wrap ((n : Int) - 1) = (j : Int) := by rw [show (n : Int) - 1 = (j : Int) by omega]; exact IntWalk.i64_in _ (by omega)
 clear hj
 go_enter Tryz.func115, Tryz.ntmps115
 go_upto_region 1 with fail
 refine wp_region_held_drew (S := (fun W => W.cell? ⟨w.heap.size, 0, none⟩ = some ((.slice (some ⟨b, o, none⟩) n cap)) ∧ W.cell? ⟨b, o, none⟩ = some (.int .i64 (T 0)) ∧ W.cell? ⟨b, o + j * 3, none⟩ = some (.int .i64 (T j)) ∧ Below w.heap.size w W ∧ w.heap.size + 1 ≤ W.heap.size)) (by kernel_rfl) ?_ (fun hHeld => ?_)
 ·exact ⟨(by go_simp; done), (by go_simp; done), (by go_simp; done), bwz, (by first | (simp; done) | (simp; omega) | omega)⟩
 refine tkD 0 (some 5) rfl ?_; simp only [pz]
 refine tkD 1 (some 6) rfl ?_; simp only [pz]
 refine tkD 2 (some 7) rfl ?_; simp only [pz]
 refine tkD 3 (some 8) rfl ?_; simp only [pz]
 refine tkD 4 (some 9) rfl ?_; simp only [pz]
 refine tkD 5 (some 10) rfl ?_; simp only [pz]
 refine tkD 6 (some 11) rfl ?_; simp only [pz]
 refine tkD 7 (some 12) rfl ?_; simp only [pz]
 refine tkD 8 (some 13) rfl ?_; simp only [pz]
 refine tkD 9 (some 14) rfl ?_; simp only [pz]
 refine tkD 10 (some 15) rfl ?_; simp only [pz]
 refine tkD 11 (some 16) rfl ?_; simp only [pz]
 refine tkD 12 (some 17) rfl ?_; simp only [pz]
 refine tkD 13 (some 18) rfl ?_; simp only [pz]
 refine tkD 14 (some 19) rfl ?_; simp only [pz]
 refine rd1 15 (some 20) rfl (fun K hK => ?_)
 go_simp; (go_at_call 46; (with_reducible refine (spec_l01In _ _ _ _).mono ?_); rintro e w9 ⟨rfl, rfl⟩)
 all_goals (try go_wp2_with fail)
 refine hK.out _ _ ?_ (fun hH2 => ?_)
 ·(try dsimp only); first | (obtain ⟨k1, k2, k3, kB, kz⟩ := hHeld; exact ⟨cell_later hb k1, cell_later hb k2, cell_later hb k3, bstep kB hb, bsize kz hb⟩) | (obtain ⟨k1, k2, k3, kB, kz⟩ := hHeld; exact ⟨k1, k2, k3, kB, kz⟩)
 clear hK K hHeld; (have hHeld := hH2); clear hH2; (try simp only [pz])
 refine tkD 16 (some 4) rfl ?_; simp only [pz]
 refine wpAnyH_done (by kernel_rfl) ?_ _; (try simp only [pz])
 obtain ⟨k1, k2, k3, kB, kz⟩ := hHeld
 go_wp2
 go_ret
 exact ⟨ret_b (by rw [Ht.out]), kB⟩
set_option maxRecDepth 100000 in
set_option maxHeartbeats 2000000 in
theorem impl_wayOf (b o n cap l : Nat) (T X Y : Nat → Int) (w : World) (h : RowAt w (some ⟨b, o, none⟩) n 3 (v3 T X Y)) (hv : isTr n T X Y = true) (hl : l + 1 < n) :
 Calls Tryz.prog 86 #[.agg #[.slice (some ⟨b, o, none⟩) n cap], .int .i64 l] w fun e w' => e = .returned (.agg #[.int .i64 (X (l + 1) - X l), .int .i64 (Y (l + 1) - Y l)]) ∧ Below w.heap.size w w' := by
 obtain ⟨hn2, hn40, _⟩ := isTr_t hv
 have hbs := World.block_lt_of_cell? _ _ (h.on3 0 (by omega)).1
 simp only at hbs
 obtain ⟨_, _, _, p0, p1⟩ := isTr_leg hv hl
 obtain ⟨x1, x2, x3, x4⟩ := isPt_t p0
 obtain ⟨y1, y2, y3, y4⟩ := isPt_t p1
 obtain ⟨c0, c1, c2⟩ := h.on3 l (by omega)
 obtain ⟨d0, d1, d2⟩ := h.on3 (l + 1) hl
 clear h hv
 have hj1 : (0 : Int) ≤ (l : Int) := by omega
 have hj2 : (l : Int) < (n : Int) := by omega
 have hj3 : (l : Int) + 1 < (n : Int) := by omega
 have hj4 : (0 : Int) ≤ (l : Int) + 1 := by omega
 have we : IntKind.i64.wrap ((l : Int) + 1) = (l : Int) + 1 := IntWalk.i64_in _ (by omega)
 have nbb0 : ¬ b = w.heap.size := (by omega); have ncb0 : ¬ w.heap.size = b := (by omega); have ndb0 : b < w.heap.size := (by omega); have nbb1 : ¬ b = w.heap.size + 1 := (by omega); have ncb1 : ¬ w.heap.size + 1 = b := (by omega); have ndb1 : b < w.heap.size + 1 := (by omega); have nbb2 : ¬ b = w.heap.size + 1 + 1 := (by omega); have ncb2 : ¬ w.heap.size + 1 + 1 = b := (by omega); have ndb2 : b < w.heap.size + 1 + 1 := (by omega); have nbb3 : ¬ b = w.heap.size + 1 + 1 + 1 := (by omega); have ncb3 : ¬ w.heap.size + 1 + 1 + 1 = b := (by omega); have ndb3 : b < w.heap.size + 1 + 1 + 1 := (by omega); have nbb4 : ¬ b = w.heap.size + 1 + 1 + 1 + 1 := (by omega); have ncb4 : ¬ w.heap.size + 1 + 1 + 1 + 1 = b := (by omega); have ndb4 : b < w.heap.size + 1 + 1 + 1 + 1 := (by omega)
 go_enter Tryz.func86, Tryz.ntmps86
 go_upto_region 1 with fail
 refine wp_region_held_drew (S := (fun W => W.cell? ⟨w.heap.size, 0, none⟩ = some ((.slice (some ⟨b, o, none⟩) n cap)) ∧ W.cell? ⟨b, o + l * 3, none⟩ = some (.int .i64 (T l)) ∧ W.cell? ⟨b, o + l * 3 + 1, none⟩ = some (.int .i64 (X l)) ∧ W.cell? ⟨b, o + l * 3 + 2, none⟩ = some (.int .i64 (Y l)) ∧ W.cell? ⟨b, o + (l + 1) * 3, none⟩ = some (.int .i64 (T (l + 1))) ∧ W.cell? ⟨b, o + (l + 1) * 3 + 1, none⟩ = some (.int .i64 (X (l + 1))) ∧ W.cell? ⟨b, o + (l + 1) * 3 + 2, none⟩ = some (.int .i64 (Y (l + 1))) ∧ Below w.heap.size w W ∧ w.heap.size + 2 ≤ W.heap.size)) (by kernel_rfl) ?_ (fun hHeld => ?_)
 ·exact ⟨(by go_simp; done), (by go_simp; done), (by go_simp; done), (by go_simp; done), (by go_simp; done), (by go_simp; done), (by go_simp; done), bwz, (by first | (simp; done) | (simp; omega) | omega)⟩
 refine tkD 0 (some 7) rfl ?_; simp only [pz]
 refine tkD 1 (some 8) rfl ?_; simp only [pz]
 refine tkD 2 (some 9) rfl ?_; simp only [pz]
 refine tkD 3 (some 10) rfl ?_; simp only [pz]
 refine tkD 4 (some 11) rfl ?_; simp only [pz]
 refine tkD 5 (some 12) rfl ?_; simp only [pz]
 refine tkD 6 (some 13) rfl ?_; simp only [pz]
 refine tkD 7 (some 14) rfl ?_; simp only [pz]
 refine tkD 8 (some 15) rfl ?_; simp only [pz]
 refine tkD 9 (some 16) rfl ?_; simp only [pz]
 refine tkD 10 (some 17) rfl ?_; simp only [pz]
 refine wpAnyH_ready (rs := [11, 12]) (by kernel_rfl) (by simp) ?_; refine (AllReadyH.cons (o := ⟨some 5, _, _, _, _, _⟩) rfl (fun K hK => ?_) (AllReadyH.cons (o := ⟨some 6, _, _, _, _, _⟩) rfl (fun K hK => ?_) AllReadyH.nil))
 ·go_simp
  all_goals (try go_wp2_with fail)
  refine hK.out _ _ ?_ (fun hH2 => ?_)
  ·(try dsimp only); obtain ⟨k1, k2, k3, k4, k5, k6, k7, kB, kz⟩ := hHeld; exact ⟨cell_alloc k1, cell_alloc k2, cell_alloc k3, cell_alloc k4, cell_alloc k5, cell_alloc k6, cell_alloc k7, bwz, (by first | (simp; done) | (simp at kz ⊢; omega) | omega)⟩
  clear hK K hHeld; (have hHeld := hH2); clear hH2; (try simp only [pz])
  have hx := hHeld; obtain ⟨k1, k2, k3, k4, k5, k6, k7, kB, kz⟩ := hx; (first | (have zg11 := alloc_lt kB) | (have zg11 : w.heap.size + 1 + 1 < _ := alloc_lt2 kB (by simp))); clear k1 k2 k3 k4 k5 k6 k7 kB kz
  refine rd1 12 (some 6) rfl (fun K hK => ?_)
  have nq11 := Nat.ne_of_lt zg11; have nr11 := Nat.ne_of_gt zg11; go_simp
  all_goals (try go_wp2_with fail)
  refine hK.out _ _ ?_ (fun hH2 => ?_)
  ·(try dsimp only); obtain ⟨k1, k2, k3, k4, k5, k6, k7, kB, kz⟩ := hHeld; exact ⟨cell_alloc k1, cell_alloc k2, cell_alloc k3, cell_alloc k4, cell_alloc k5, cell_alloc k6, cell_alloc k7, bwz, (by first | (simp; done) | (simp at kz ⊢; omega) | omega)⟩
  clear hK K hHeld; (have hHeld := hH2); clear hH2; (try simp only [pz])
  have hx := hHeld; obtain ⟨k1, k2, k3, k4, k5, k6, k7, kB, kz⟩ := hx; (first | (have zg12 := alloc_lt kB) | (have zg12 : w.heap.size + 1 + 1 + 1 < _ := alloc_lt2 kB (by simp))); (first | (have zg11 := Nat.lt_trans zg11 zg12) | (have zg11 := Nat.lt_trans (show w.heap.size + 1 + 1 < w.heap.size + 1 + 1 + 1 by omega) zg12)); clear k1 k2 k3 k4 k5 k6 k7 kB kz
  refine rd1 13 none rfl (fun K hK => ?_)
  go_simp
  all_goals (try go_wp2_with fail)
  refine hK.out _ _ ?_ (fun hH2 => ?_)
  ·(try dsimp only); first | (obtain ⟨k1, k2, k3, k4, k5, k6, k7, kB, kz⟩ := hHeld; (have kz2 := kz); (try simp at kz2); exact ⟨crk k1, crk k2, crk k3, crk k4, crk k5, crk k6, crk k7, (by with_reducible refine below_realloc kB ?_; omega), (by first | (simp; done) | (simp at kz ⊢; omega) | omega)⟩) | (obtain ⟨k1, k2, k3, k4, k5, k6, k7, kB, kz⟩ := hHeld; exact ⟨csk k1, csk k2, csk k3, csk k4, csk k5, csk k6, csk k7, bwz, (by first | (simp; done) | (simp at kz ⊢; omega) | omega)⟩)
  clear hK K hHeld; (have hHeld := hH2); clear hH2; (try simp only [pz])
  refine rd1 14 none rfl (fun K hK => ?_)
  go_simp
  all_goals (try go_wp2_with fail)
  refine hK.out _ _ ?_ (fun hH2 => ?_)
  ·(try dsimp only); first | (obtain ⟨k1, k2, k3, k4, k5, k6, k7, kB, kz⟩ := hHeld; (have kz2 := kz); (try simp at kz2); exact ⟨crk k1, crk k2, crk k3, crk k4, crk k5, crk k6, crk k7, (by with_reducible refine below_realloc kB ?_; omega), (by first | (simp; done) | (simp at kz ⊢; omega) | omega)⟩) | (obtain ⟨k1, k2, k3, k4, k5, k6, k7, kB, kz⟩ := hHeld; exact ⟨csk k1, csk k2, csk k3, csk k4, csk k5, csk k6, csk k7, bwz, (by first | (simp; done) | (simp at kz ⊢; omega) | omega)⟩)
  clear hK K hHeld; (have hHeld := hH2); clear hH2; (try simp only [pz])
  refine wpAnyH_done (by kernel_rfl) ?_ _; (try simp only [pz])
  obtain ⟨k1, k2, k3, k4, k5, k6, k7, kB, kz⟩ := hHeld
  clear we
  go_wp2
  simp [bodyPost, results, Tryz.results86, go_sem, *]
  all_goals exact bwz
 ·go_simp
  all_goals (try go_wp2_with fail)
  refine hK.out _ _ ?_ (fun hH2 => ?_)
  ·(try dsimp only); obtain ⟨k1, k2, k3, k4, k5, k6, k7, kB, kz⟩ := hHeld; exact ⟨cell_alloc k1, cell_alloc k2, cell_alloc k3, cell_alloc k4, cell_alloc k5, cell_alloc k6, cell_alloc k7, bwz, (by first | (simp; done) | (simp at kz ⊢; omega) | omega)⟩
  clear hK K hHeld; (have hHeld := hH2); clear hH2; (try simp only [pz])
  have hx := hHeld; obtain ⟨k1, k2, k3, k4, k5, k6, k7, kB, kz⟩ := hx; (first | (have zg12 := alloc_lt kB) | (have zg12 : w.heap.size + 1 + 1 < _ := alloc_lt2 kB (by simp))); clear k1 k2 k3 k4 k5 k6 k7 kB kz
  refine rd1 11 (some 5) rfl (fun K hK => ?_)
  have nq12 := Nat.ne_of_lt zg12; have nr12 := Nat.ne_of_gt zg12; go_simp
  all_goals (try go_wp2_with fail)
  refine hK.out _ _ ?_ (fun hH2 => ?_)
  ·(try dsimp only); obtain ⟨k1, k2, k3, k4, k5, k6, k7, kB, kz⟩ := hHeld; exact ⟨cell_alloc k1, cell_alloc k2, cell_alloc k3, cell_alloc k4, cell_alloc k5, cell_alloc k6, cell_alloc k7, bwz, (by first | (simp; done) | (simp at kz ⊢; omega) | omega)⟩
  clear hK K hHeld; (have hHeld := hH2); clear hH2; (try simp only [pz])
  have hx := hHeld; obtain ⟨k1, k2, k3, k4, k5, k6, k7, kB, kz⟩ := hx; (first | (have zg11 := alloc_lt kB) | (have zg11 : w.heap.size + 1 + 1 + 1 < _ := alloc_lt2 kB (by simp))); (first | (have zg12 := Nat.lt_trans zg12 zg11) | (have zg12 := Nat.lt_trans (show w.heap.size + 1 + 1 < w.heap.size + 1 + 1 + 1 by omega) zg11)); clear k1 k2 k3 k4 k5 k6 k7 kB kz
  refine rd1 13 none rfl (fun K hK => ?_)
  go_simp
  all_goals (try go_wp2_with fail)
  refine hK.out _ _ ?_ (fun hH2 => ?_)
  ·(try dsimp only); first | (obtain ⟨k1, k2, k3, k4, k5, k6, k7, kB, kz⟩ := hHeld; (have kz2 := kz); (try simp at kz2); exact ⟨crk k1, crk k2, crk k3, crk k4, crk k5, crk k6, crk k7, (by with_reducible refine below_realloc kB ?_; omega), (by first | (simp; done) | (simp at kz ⊢; omega) | omega)⟩) | (obtain ⟨k1, k2, k3, k4, k5, k6, k7, kB, kz⟩ := hHeld; exact ⟨csk k1, csk k2, csk k3, csk k4, csk k5, csk k6, csk k7, bwz, (by first | (simp; done) | (simp at kz ⊢; omega) | omega)⟩)
  clear hK K hHeld; (have hHeld := hH2); clear hH2; (try simp only [pz])
  refine rd1 14 none rfl (fun K hK => ?_)
  go_simp
  all_goals (try go_wp2_with fail)
  refine hK.out _ _ ?_ (fun hH2 => ?_)
  ·(try dsimp only); first | (obtain ⟨k1, k2, k3, k4, k5, k6, k7, kB, kz⟩ := hHeld; (have kz2 := kz); (try simp at kz2); exact ⟨crk k1, crk k2, crk k3, crk k4, crk k5, crk k6, crk k7, (by with_reducible refine below_realloc kB ?_; omega), (by first | (simp; done) | (simp at kz ⊢; omega) | omega)⟩) | (obtain ⟨k1, k2, k3, k4, k5, k6, k7, kB, kz⟩ := hHeld; exact ⟨csk k1, csk k2, csk k3, csk k4, csk k5, csk k6, csk k7, bwz, (by first | (simp; done) | (simp at kz ⊢; omega) | omega)⟩)
  clear hK K hHeld; (have hHeld := hH2); clear hH2; (try simp only [pz])
  refine wpAnyH_done (by kernel_rfl) ?_ _; (try simp only [pz])
  obtain ⟨k1, k2, k3, k4, k5, k6, k7, kB, kz⟩ := hHeld
  clear we
  go_wp2
  simp [bodyPost, results, Tryz.results86, go_sem, *]
  all_goals exact bwz
set_option maxRecDepth 100000 in
set_option maxHeartbeats 2000000 in
theorem spec_l03Heading (b o n cap l : Nat) (T X Y : Nat → Int) (w : World) (h : RowAt w (some ⟨b, o, none⟩) n 3 (v3 T X Y)) (hv : isTr n T X Y = true) (hl : l + 1 < n) :
 Calls Tryz.prog 94 #[.agg #[.slice (some ⟨b, o, none⟩) n cap], .int .i64 l] w fun e w' => e = .returned (.agg #[.int .i64 (X (l + 1) - X l), .int .i64 (Y (l + 1) - Y l)]) ∧ Below w.heap.size w w' := by
 obtain ⟨hn2, hn40, _⟩ := isTr_t hv
 have hbs := World.block_lt_of_cell? _ _ (h.on3 0 (by omega)).1
 simp only at hbs
 obtain ⟨_, _, _, p0, p1⟩ := isTr_leg hv hl
 obtain ⟨x1, x2, x3, x4⟩ := isPt_t p0
 obtain ⟨y1, y2, y3, y4⟩ := isPt_t p1
 obtain ⟨c0, c1, c2⟩ := h.on3 l (by omega)
 obtain ⟨d0, d1, d2⟩ := h.on3 (l + 1) hl
 clear h hv
 have hj1 : (0 : Int) ≤ (l : Int) := by omega
 have hj2 : (l : Int) < (n : Int) := by omega
 have hj3 : (l : Int) + 1 < (n : Int) := by omega
 have hj4 : (0 : Int) ≤ (l : Int) + 1 := by omega
 have we : IntKind.i64.wrap ((l : Int) + 1) = (l : Int) + 1 := IntWalk.i64_in _ (by omega)
 obtain ⟨s1, s2⟩ := pt_sm p0
 obtain ⟨s3, s4⟩ := pt_sm p1
 go_enter Tryz.func94, Tryz.ntmps94
 go_upto_region 1 with fail
 refine wp_region_held_drew (S := (fun W => W.cell? ⟨w.heap.size, 0, none⟩ = some ((.slice (some ⟨b, o, none⟩) n cap)) ∧ W.cell? ⟨b, o + l * 3, none⟩ = some (.int .i64 (T l)) ∧ W.cell? ⟨b, o + l * 3 + 1, none⟩ = some (.int .i64 (X l)) ∧ W.cell? ⟨b, o + l * 3 + 2, none⟩ = some (.int .i64 (Y l)) ∧ W.cell? ⟨b, o + (l + 1) * 3, none⟩ = some (.int .i64 (T (l + 1))) ∧ W.cell? ⟨b, o + (l + 1) * 3 + 1, none⟩ = some (.int .i64 (X (l + 1))) ∧ W.cell? ⟨b, o + (l + 1) * 3 + 2, none⟩ = some (.int .i64 (Y (l + 1))) ∧ Below w.heap.size w W ∧ w.heap.size + 2 ≤ W.heap.size)) (by kernel_rfl) ?_ (fun hHeld => ?_)
 ·exact ⟨(by go_simp; done), (by go_simp; done), (by go_simp; done), (by go_simp; done), (by go_simp; done), (by go_simp; done), (by go_simp; done), bwz, (by first | (simp; done) | (simp; omega) | omega)⟩
 refine tkD 0 (some 5) rfl ?_; simp only [pz]
 refine tkD 1 (some 6) rfl ?_; simp only [pz]
 refine tkD 2 (some 7) rfl ?_; simp only [pz]
 refine tkD 3 (some 8) rfl ?_; simp only [pz]
 refine tkD 4 (some 9) rfl ?_; simp only [pz]
 refine tkD 5 (some 10) rfl ?_; simp only [pz]
 refine tkD 7 (some 12) rfl ?_; simp only [pz]
 refine tkD 8 (some 13) rfl ?_; simp only [pz]
 refine tkD 9 (some 14) rfl ?_; simp only [pz]
 refine tkD 10 (some 15) rfl ?_; simp only [pz]
 refine tkD 11 (some 16) rfl ?_; simp only [pz]
 refine rd1 6 (some 11) rfl (fun K hK => ?_)
 go_simp; (go_at_call 53; (with_reducible refine (spec_l03Point _ _ _ _).mono ?_); rintro e w9 ⟨rfl, hb⟩; have hzz := hb.size; (try simp at hzz); have hn0 : ¬ w9.heap.size = w.heap.size := (by omega); have hm0 : ¬ w.heap.size = w9.heap.size := (by omega); have hn1 : ¬ w9.heap.size = w.heap.size + 1 := (by omega); have hm1 : ¬ w.heap.size + 1 = w9.heap.size := (by omega); have z0 : w.heap.size < w9.heap.size := (by omega); have z1 : w.heap.size + 1 < w9.heap.size := (by omega); obtain ⟨hc, hf⟩ := bcell hb)
 all_goals (try go_wp2_with fail)
 refine hK.out _ _ ?_ (fun hH2 => ?_)
 ·(try dsimp only); first | (obtain ⟨k1, k2, k3, k4, k5, k6, k7, kB, kz⟩ := hHeld; exact ⟨cell_later hb k1, cell_later hb k2, cell_later hb k3, cell_later hb k4, cell_later hb k5, cell_later hb k6, cell_later hb k7, bstep kB hb, bsize kz hb⟩) | (obtain ⟨k1, k2, k3, k4, k5, k6, k7, kB, kz⟩ := hHeld; exact ⟨k1, k2, k3, k4, k5, k6, k7, kB, kz⟩)
 clear hK K hHeld; (have hHeld := hH2); clear hH2; (try simp only [pz])
 refine rd1 12 (some 17) rfl (fun K hK => ?_)
 go_simp; (go_at_call 53; (with_reducible refine (spec_l03Point _ _ _ _).mono ?_); rintro e w9 ⟨rfl, hb⟩; have hzz := hb.size; (try simp at hzz); have hn0 : ¬ w9.heap.size = w.heap.size := (by omega); have hm0 : ¬ w.heap.size = w9.heap.size := (by omega); have hn1 : ¬ w9.heap.size = w.heap.size + 1 := (by omega); have hm1 : ¬ w.heap.size + 1 = w9.heap.size := (by omega); have z0 : w.heap.size < w9.heap.size := (by omega); have z1 : w.heap.size + 1 < w9.heap.size := (by omega); obtain ⟨hc, hf⟩ := bcell hb)
 all_goals (try go_wp2_with fail)
 refine hK.out _ _ ?_ (fun hH2 => ?_)
 ·(try dsimp only); first | (obtain ⟨k1, k2, k3, k4, k5, k6, k7, kB, kz⟩ := hHeld; exact ⟨cell_later hb k1, cell_later hb k2, cell_later hb k3, cell_later hb k4, cell_later hb k5, cell_later hb k6, cell_later hb k7, bstep kB hb, bsize kz hb⟩) | (obtain ⟨k1, k2, k3, k4, k5, k6, k7, kB, kz⟩ := hHeld; exact ⟨k1, k2, k3, k4, k5, k6, k7, kB, kz⟩)
 clear hK K hHeld; (have hHeld := hH2); clear hH2; (try simp only [pz])
 refine rd1 13 (some 18) rfl (fun K hK => ?_)
 go_simp; (go_at_call 33; (with_reducible refine (spec_l01Minus _ _ _ _ s3 s4 s1 s2 _).mono ?_); rintro e w9 ⟨rfl, hb⟩; have hzz := hb.size; (try simp at hzz); have hn0 : ¬ w9.heap.size = w.heap.size := (by omega); have hm0 : ¬ w.heap.size = w9.heap.size := (by omega); have hn1 : ¬ w9.heap.size = w.heap.size + 1 := (by omega); have hm1 : ¬ w.heap.size + 1 = w9.heap.size := (by omega); have z0 : w.heap.size < w9.heap.size := (by omega); have z1 : w.heap.size + 1 < w9.heap.size := (by omega); obtain ⟨hc, hf⟩ := bcell hb)
 all_goals (try go_wp2_with fail)
 refine hK.out _ _ ?_ (fun hH2 => ?_)
 ·(try dsimp only); first | (obtain ⟨k1, k2, k3, k4, k5, k6, k7, kB, kz⟩ := hHeld; exact ⟨cell_later hb k1, cell_later hb k2, cell_later hb k3, cell_later hb k4, cell_later hb k5, cell_later hb k6, cell_later hb k7, bstep kB hb, bsize kz hb⟩) | (obtain ⟨k1, k2, k3, k4, k5, k6, k7, kB, kz⟩ := hHeld; exact ⟨k1, k2, k3, k4, k5, k6, k7, kB, kz⟩)
 clear hK K hHeld; (have hHeld := hH2); clear hH2; (try simp only [pz])
 refine rd1 14 none rfl (fun K hK => ?_)
 go_simp
 all_goals (try go_wp2_with fail)
 refine hK.out _ _ ?_ (fun hH2 => ?_)
 ·(try dsimp only); first | (obtain ⟨k1, k2, k3, k4, k5, k6, k7, kB, kz⟩ := hHeld; (have kz2 := kz); (try simp at kz2); exact ⟨crk k1, crk k2, crk k3, crk k4, crk k5, crk k6, crk k7, (by with_reducible refine below_realloc kB ?_; omega), (by first | (simp; done) | (simp at kz ⊢; omega) | omega)⟩) | (obtain ⟨k1, k2, k3, k4, k5, k6, k7, kB, kz⟩ := hHeld; exact ⟨csk k1, csk k2, csk k3, csk k4, csk k5, csk k6, csk k7, bwz, (by first | (simp; done) | (simp at kz ⊢; omega) | omega)⟩)
 clear hK K hHeld; (have hHeld := hH2); clear hH2; (try simp only [pz])
 refine wpAnyH_done (by kernel_rfl) ?_ _; (try simp only [pz])
 obtain ⟨k1, k2, k3, k4, k5, k6, k7, kB, kz⟩ := hHeld
 clear we
 go_wp2
 simp [bodyPost, results, Tryz.results94, go_sem, *]
 all_goals exact bwz
theorem legF_lt {n : Nat} (T : Nat → Int) (t : Int) (h : 2 ≤ n) : legF T t (n - 2) + 1 < n := by have := legF_le T t (n - 2); omega
theorem row_some {w : World} {so : Option Addr} {n : Nat} {T X Y : Nat → Int} (h : RowAt w so n 3 (v3 T X Y)) (hv : isTr n T X Y = true) : ∃ b o, so = some ⟨b, o, none⟩ := by
 obtain ⟨b, o, e, _⟩ := h 0 (by have := isTr_t hv; omega)
 exact ⟨b, o, e⟩
/-- The code of a track and a time. -/
def trC (n : Nat) (T X Y : Nat → Int) (t : Int) : Int := sel (isTr n T X Y) (sel (inB t (T 0) (T (n - 1))) 0 2) 1
set_option maxRecDepth 100000 in
set_option maxHeartbeats 1000000 in
theorem impl_trackCode (so : Option Addr) (n cap : Nat) (T X Y : Nat → Int) (t : Int) (w : World) (h : RowAt w so n 3 (v3 T X Y)) (hn : n ≤ 1048576) :
 Calls Tryz.prog 85 #[.agg #[.slice so n cap], .int .i64 t] w fun e w' => e = .returned (.int .i64 (sel (isTr n T X Y) (sel (inB t (T 0) (T (n - 1))) 0 2) 1)) ∧ Below w.heap.size w w' := by
 rcases b2 (isTr n T X Y) with g1 | g1
 ·go_enter Tryz.func85, Tryz.ntmps85
  go_wp2_with (first | (go_at_call 57; (with_reducible refine (impl_IsTrack _ _ _ T X Y _ (RowAt.later bwz h) hn).mono ?_); rintro e w9 ⟨rfl, hb⟩; obtain ⟨hc, hf⟩ := bcell hb; have hz := hb.size; have z0 : w.heap.size < w9.heap.size := (by first | omega | (simp at hz; omega))))
  go_ret
  exact ⟨by simp [sel, g1], bwz⟩
 ·obtain ⟨b, o, rfl⟩ := row_some h g1
  rcases b2 (inB t (T 0) (T (n - 1))) with g2 | g2
  all_goals
   go_enter Tryz.func85, Tryz.ntmps85
   go_wp2_with (first | (go_at_call 57; (with_reducible refine (impl_IsTrack _ _ _ T X Y _ (RowAt.later bwz h) hn).mono ?_); rintro e w9 ⟨rfl, hb⟩; obtain ⟨hc, hf⟩ := bcell hb; have hz := hb.size; have z0 : w.heap.size < w9.heap.size := (by first | omega | (simp at hz; omega))) | (go_at_call 111; (with_reducible refine (impl_lasts _ _ _ _ T X Y _ _ (RowAt.later bwz h) g1).mono ?_); rintro e w9 ⟨rfl, hb⟩; obtain ⟨hc, hf⟩ := bcell hb; have hz := hb.size; have z0 : w.heap.size < w9.heap.size := (by first | omega | (simp at hz; omega))))
   go_ret
   exact ⟨by simp [sel, g1, g2], bwz⟩
set_option maxRecDepth 100000 in
set_option maxHeartbeats 1000000 in
theorem spec_LegAt (so : Option Addr) (n cap : Nat) (T X Y : Nat → Int) (t : Int) (w : World) (h : RowAt w so n 3 (v3 T X Y)) (hn : n ≤ 1048576) :
 Calls Tryz.prog 93 #[.agg #[.slice so n cap], .int .i64 t] w fun e w' => e = .returned (.tuple #[.int .i64 (sel (isTr n T X Y && inB t (T 0) (T (n - 1))) (legF T t (n - 2) : Nat) 0), .int .i64 (sel (isTr n T X Y) (sel (inB t (T 0) (T (n - 1))) 0 2) 1)]) ∧ Below w.heap.size w w' := by
 rcases b2 (isTr n T X Y) with g1 | g1
 ·go_enter Tryz.func93, Tryz.ntmps93
  go_wp2_with (first | (go_at_call 25; (with_reducible refine (spec_IsTrack _ _ _ T X Y _ (RowAt.later bwz h) hn).mono ?_); rintro e w9 ⟨rfl, hb⟩; obtain ⟨hc, hf⟩ := bcell hb; have hz := hb.size; have z0 : w.heap.size < w9.heap.size := (by first | omega | (simp at hz; omega))))
  go_ret2
  exact ⟨by simp [sel, g1], bwz⟩
 ·obtain ⟨b, o, rfl⟩ := row_some h g1
  obtain ⟨hn2, hn40, _⟩ := isTr_t g1
  rcases b2 (inB t (T 0) (T (n - 1))) with g2 | g2
  all_goals
   go_enter Tryz.func93, Tryz.ntmps93
   go_wp2_with (first | (go_at_call 25; (with_reducible refine (spec_IsTrack _ _ _ T X Y _ (RowAt.later bwz h) hn).mono ?_); rintro e w9 ⟨rfl, hb⟩; obtain ⟨hc, hf⟩ := bcell hb; have hz := hb.size; have z0 : w.heap.size < w9.heap.size := (by first | omega | (simp at hz; omega))) | (go_at_call 115; (with_reducible refine (spec_l03Lasts _ _ _ _ T X Y _ _ (RowAt.later bwz h) g1).mono ?_); rintro e w9 ⟨rfl, hb⟩; obtain ⟨hc, hf⟩ := bcell hb; have hz := hb.size; have z0 : w.heap.size < w9.heap.size := (by first | omega | (simp at hz; omega))) | (go_at_call 95; (with_reducible refine (spec_l03Leg _ _ _ _ T X Y _ _ (RowAt.later bwz h) hn40 hn2).mono ?_); rintro e w9 ⟨rfl, hb⟩; obtain ⟨hc, hf⟩ := bcell hb; have hz := hb.size; have z0 : w.heap.size < w9.heap.size := (by first | omega | (simp at hz; omega))))
   go_ret2
   exact ⟨by simp [sel, g1, g2], bwz⟩
end Go.Proofs.YthlnpcneicmblaaGreatDoor
