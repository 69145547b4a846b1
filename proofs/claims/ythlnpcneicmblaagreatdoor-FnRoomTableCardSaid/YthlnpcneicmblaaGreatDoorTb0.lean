/- Walks: valid tracks, and legs. -/
import Derived.Test.YthlnpcneicmblaaGreatDoorBs
import Derived.Test.YthlnpcneicmblaaGreatDoorBase
import Derived.Test.YthlnpcneicmblaaGreatDoorA
import Derived.Deep.RegionHeld3
import Derived.Deep.DeepCutAuto
namespace Go.Proofs.YthlnpcneicmblaaGreatDoor
open Go.RowKit

theorem impl_isTime (n : Int) (w : World) : Calls Tryz.prog 76 #[.int .i64 n] w fun e w' => e = .returned (.bool (inB n 0 1000000000)) ∧ w = w' := by
 go_enter Tryz.func76, Tryz.ntmps76
 go_wp2_with (go_at_call 41; (with_reducible refine (impl_within _ _ _ _).mono ?_); rintro e w9 ⟨rfl, rfl⟩)
 go_ret
 exact ⟨rfl, rfl⟩
theorem impl_pointOf (a x y : Int) (w : World) : Calls Tryz.prog 78 #[.agg #[.int .i64 a, .int .i64 x, .int .i64 y]] w fun e w' => e = .returned (.agg #[.int .i64 x, .int .i64 y]) ∧ Below w.heap.size w w' := by
 go_enter Tryz.func78, Tryz.ntmps78
 go_wp2
 simp [bodyPost, results, Tryz.results78, go_sem, *]
 exact bwz
theorem spec_l03Point (a x y : Int) (w : World) : Calls Tryz.prog 53 #[.agg #[.int .i64 a, .int .i64 x, .int .i64 y]] w fun e w' => e = .returned (.agg #[.int .i64 x, .int .i64 y]) ∧ Below w.heap.size w w' := by
 go_enter Tryz.func53, Tryz.ntmps53
 go_wp2
 simp [bodyPost, results, Tryz.results53, go_sem, *]
 exact bwz
theorem fixOk_a {T X Y : Nat → Int} {k : Nat} (h : inB (T k) 0 1000000000 = false) : fixOk T X Y k = false := by unfold fixOk; rw [h]; rfl
theorem fixOk_b {T X Y : Nat → Int} {k : Nat} (h : isPt (X k) (Y k) = false) : fixOk T X Y k = false := by unfold fixOk; rw [h, Bool.and_false]; rfl
theorem fixOk_0 {T X Y : Nat → Int} (h1 : inB (T 0) 0 1000000000 = true) (h : isPt (X 0) (Y 0) = true) : fixOk T X Y 0 = true := by unfold fixOk; rw [h, h1]; rfl
theorem fixOk_1 {T X Y : Nat → Int} {j : Nat} (h1 : inB (T (j + 1)) 0 1000000000 = true) (h : isPt (X (j + 1)) (Y (j + 1)) = true) (h2 : T j < T (j + 1)) : fixOk T X Y (j + 1) = true := by
 have e : decide (T (j + 1) ≤ T (j + 1 - 1)) = false := decide_eq_false (by simp; omega)
 unfold fixOk; rw [h, h1, e]; simp
theorem fixOk_2 {T X Y : Nat → Int} {j : Nat} (h2 : T (j + 1) ≤ T j) : fixOk T X Y (j + 1) = false := by
 have e : decide (T (j + 1) ≤ T (j + 1 - 1)) = true := decide_eq_true h2
 unfold fixOk; rw [e]; simp
theorem isTr_f {T X Y : Nat → Int} {n k : Nat} (hk : k < n) (h : fixOk T X Y k = false) : isTr n T X Y = false := by unfold isTr; rw [fixesOk_f hk h]; rfl
theorem fixes_step {T X Y : Nat → Int} {k : Nat} (h : fixesOk T X Y k = true) (h2 : fixOk T X Y k = true) : fixesOk T X Y (k + 1) = true := by unfold fixesOk; rw [h, h2]; rfl
end Go.Proofs.YthlnpcneicmblaaGreatDoor
namespace Go.Proofs.YthlnpcneicmblaaGreatDoor
open Go.RowKit

set_option maxRecDepth 100000 in
set_option maxHeartbeats 4000000 in
theorem spec_IsTrack (so : Option Addr) (n cap : Nat) (T X Y : Nat → Int) (w : World) (h : RowAt w so n 3 (v3 T X Y)) (hn : n ≤ 1048576) :
 Calls Tryz.prog 25 #[.agg #[.slice so n cap]] w fun e w' => e = .returned (.bool (isTr n T X Y)) ∧ Below w.heap.size w w' := by
 by_cases hv : 2 ≤ n ∧ n ≤ 40
 case neg =>
  have Hr := hide (show isTr n T X Y = false by unfold isTr inB; rw [decide_eq_false (by omega), Bool.and_false])
  rcases (by omega : n < 2 ∨ (2 ≤ n ∧ 40 < n)) with hv2 | ⟨hv2, hv3⟩
  all_goals
   clear hv
   go_enter Tryz.func25, Tryz.ntmps25
   go_wp2
   go_ret
   exact ⟨ret_b Hr.out.symm, bwz⟩
 obtain ⟨hv1, hv2⟩ := hv
 go_enter Tryz.func25, Tryz.ntmps25
 go_wp2
 go_loopw [4] (fun i wr => ∃ k : Nat, k ≤ n ∧ i = .int .i64 k ∧ Hid (fixesOk T X Y k = true) ∧ wr.cell? ⟨w.heap.size, 0, none⟩ = some (.slice so n cap) ∧ Below w.heap.size w wr ∧ w.heap.size + 1 ≤ wr.heap.size) (fun i _ => n - (intOf i).toNat)
 case atStart => exact ⟨0, Nat.zero_le _, rfl, hide rfl, by go_simp, bwz, by simp⟩
 case round =>
  obtain ⟨k, hk, rfl, Hok, hcell, hbl, hsz⟩ := hrel
  by_cases hlt : k < n
  ·obtain ⟨b, o, rfl, hbs, c0, c1, c2⟩ := (RowAt.later hbl h).at3 k hlt
   have hi1 : (0 : Int) ≤ (k : Int) := by omega
   have hi2 : (k : Int) < (n : Int) := by omega
   have nz1 : ¬ wr.heap.size = w.heap.size := by omega
   have nz2 : ¬ w.heap.size = wr.heap.size := by omega
   have nz3 : ¬ b = wr.heap.size := by omega
   have nz4 : ¬ wr.heap.size = b := by omega
   have nz5 : w.heap.size < wr.heap.size := by omega
   rcases b2 (inB (T k) 0 1000000000) with g1 | g1
   ·go_upto_region 8 with fail
    refine wp_region_held_drew (S := (fun W => W.cell? ⟨w.heap.size, 0, none⟩ = some ((.slice (some ⟨b, o, none⟩) n cap)) ∧ W.cell? ⟨wr.heap.size, 0, none⟩ = some (.int .i64 (T k)) ∧ W.cell? ⟨wr.heap.size, 1, none⟩ = some (.int .i64 (X k)) ∧ W.cell? ⟨wr.heap.size, 2, none⟩ = some (.int .i64 (Y k)) ∧ Below w.heap.size w W ∧ w.heap.size + 1 ≤ W.heap.size)) (by kernel_rfl) ?_ (fun hHeld => ?_)
    ·exact ⟨(by go_simp; done), (by go_simp; done), (by go_simp; done), (by go_simp; done), bwz, (by first | (simp; done) | (simp; omega) | omega)⟩
    refine tkD 0 (some 25) rfl ?_; simp only [pz]
    refine tkD 1 (some 26) rfl ?_; simp only [pz]
    refine rd1 2 (some 27) rfl (fun K hK => ?_)
    go_simp; (go_at_call 46; (with_reducible refine (spec_l01In _ _ _ _).mono ?_); rintro e w9 ⟨rfl, rfl⟩)
    all_goals (try go_wp2_with fail)
    refine hK.out _ _ ?_ (fun hH2 => ?_)
    ·(try dsimp only); first | (obtain ⟨k1, k2, k3, k4, kB, kz⟩ := hHeld; exact ⟨cell_later hb k1, cell_later hb k2, cell_later hb k3, cell_later hb k4, bstep kB hb, bsize kz hb⟩) | (obtain ⟨k1, k2, k3, k4, kB, kz⟩ := hHeld; exact ⟨k1, k2, k3, k4, kB, kz⟩)
    clear hK K hHeld; (have hHeld := hH2); clear hH2; (try simp only [pz])
    refine tkD 3 (some 28) rfl ?_; simp only [pz]
    refine tkD 4 (some 29) rfl ?_; simp only [pz]
    refine tkO 5 (some 30) rfl ?_; simp only [pz]
    refine tkO 6 (some 31) rfl ?_; simp only [pz]
    refine tkO 7 (some 32) rfl ?_; simp only [pz]
    refine tkO 8 (some 33) rfl ?_; simp only [pz]
    refine tkD 9 (some 34) rfl ?_; simp only [pz]
    refine tkD 10 (some 35) rfl ?_; simp only [pz]
    refine tkO 11 (some 36) rfl ?_; simp only [pz]
    refine tkO 12 (some 37) rfl ?_; simp only [pz]
    refine tkO 13 (some 38) rfl ?_; simp only [pz]
    refine tkO 14 (some 39) rfl ?_; simp only [pz]
    refine tkO 15 (some 40) rfl ?_; simp only [pz]
    refine tkO 16 (some 41) rfl ?_; simp only [pz]
    refine tkO 17 (some 42) rfl ?_; simp only [pz]
    refine tkO 18 (some 43) rfl ?_; simp only [pz]
    refine tkO 19 (some 44) rfl ?_; simp only [pz]
    refine tkO 20 (some 45) rfl ?_; simp only [pz]
    refine tkO 21 (some 46) rfl ?_; simp only [pz]
    refine tkO 22 (some 47) rfl ?_; simp only [pz]
    refine tkO 23 (some 48) rfl ?_; simp only [pz]
    refine tkO 24 (some 49) rfl ?_; simp only [pz]
    refine tkD 25 (some 50) rfl ?_; simp only [pz]
    refine wpAnyH_done (by kernel_rfl) ?_ _; (try simp only [pz])
    obtain ⟨k1, k2, k3, k4, kB, kz⟩ := hHeld
    go_wp2
    go_ret
    exact ⟨ret_b (isTr_f hlt (fixOk_a g1)).symm, kB⟩
   ·rcases b2 (isPt (X k) (Y k)) with g2 | g2
    ·go_upto_region 8 with fail
     refine wp_region_held_drew (S := (fun W => W.cell? ⟨w.heap.size, 0, none⟩ = some ((.slice (some ⟨b, o, none⟩) n cap)) ∧ W.cell? ⟨wr.heap.size, 0, none⟩ = some (.int .i64 (T k)) ∧ W.cell? ⟨wr.heap.size, 1, none⟩ = some (.int .i64 (X k)) ∧ W.cell? ⟨wr.heap.size, 2, none⟩ = some (.int .i64 (Y k)) ∧ Below w.heap.size w W ∧ w.heap.size + 1 ≤ W.heap.size)) (by kernel_rfl) ?_ (fun hHeld => ?_)
     ·exact ⟨(by go_simp; done), (by go_simp; done), (by go_simp; done), (by go_simp; done), bwz, (by first | (simp; done) | (simp; omega) | omega)⟩
     refine tkD 0 (some 25) rfl ?_; simp only [pz]
     refine tkD 1 (some 26) rfl ?_; simp only [pz]
     refine rd1 2 (some 27) rfl (fun K hK => ?_)
     go_simp; (go_at_call 46; (with_reducible refine (spec_l01In _ _ _ _).mono ?_); rintro e w9 ⟨rfl, rfl⟩)
     all_goals (try go_wp2_with fail)
     refine hK.out _ _ ?_ (fun hH2 => ?_)
     ·(try dsimp only); first | (obtain ⟨k1, k2, k3, k4, kB, kz⟩ := hHeld; exact ⟨cell_later hb k1, cell_later hb k2, cell_later hb k3, cell_later hb k4, bstep kB hb, bsize kz hb⟩) | (obtain ⟨k1, k2, k3, k4, kB, kz⟩ := hHeld; exact ⟨k1, k2, k3, k4, kB, kz⟩)
     clear hK K hHeld; (have hHeld := hH2); clear hH2; (try simp only [pz])
     refine tkD 3 (some 28) rfl ?_; simp only [pz]
     refine tkD 4 (some 29) rfl ?_; simp only [pz]
     refine tkD 5 (some 30) rfl ?_; simp only [pz]
     refine rd1 6 (some 31) rfl (fun K hK => ?_)
     go_simp; (go_at_call 53; (with_reducible refine (spec_l03Point _ _ _ _).mono ?_); rintro e w9 ⟨rfl, hb⟩; have hzz := hb.size; (try simp at hzz); have hn0 : ¬ w9.heap.size = w.heap.size := (by omega); have hm0 : ¬ w.heap.size = w9.heap.size := (by omega); have z0 : w.heap.size < w9.heap.size := (by omega); obtain ⟨hc, hf⟩ := bcell hb)
     all_goals (try go_wp2_with fail)
     refine hK.out _ _ ?_ (fun hH2 => ?_)
     ·(try dsimp only); first | (obtain ⟨k1, k2, k3, k4, kB, kz⟩ := hHeld; exact ⟨cell_later hb k1, cell_later hb k2, cell_later hb k3, cell_later hb k4, bstep kB hb, bsize kz hb⟩) | (obtain ⟨k1, k2, k3, k4, kB, kz⟩ := hHeld; exact ⟨k1, k2, k3, k4, kB, kz⟩)
     clear hK K hHeld; (have hHeld := hH2); clear hH2; (try simp only [pz])
     refine rd1 7 (some 32) rfl (fun K hK => ?_)
     go_simp; (go_at_call 37; (with_reducible refine (spec_IsPoint _ _ _).mono ?_); rintro e w9 ⟨rfl, hb⟩; have hzz := hb.size; (try simp at hzz); have hn0 : ¬ w9.heap.size = w.heap.size := (by omega); have hm0 : ¬ w.heap.size = w9.heap.size := (by omega); have z0 : w.heap.size < w9.heap.size := (by omega); obtain ⟨hc, hf⟩ := bcell hb)
     all_goals (try go_wp2_with fail)
     refine hK.out _ _ ?_ (fun hH2 => ?_)
     ·(try dsimp only); first | (obtain ⟨k1, k2, k3, k4, kB, kz⟩ := hHeld; exact ⟨cell_later hb k1, cell_later hb k2, cell_later hb k3, cell_later hb k4, bstep kB hb, bsize kz hb⟩) | (obtain ⟨k1, k2, k3, k4, kB, kz⟩ := hHeld; exact ⟨k1, k2, k3, k4, kB, kz⟩)
     clear hK K hHeld; (have hHeld := hH2); clear hH2; (try simp only [pz])
     refine tkD 8 (some 33) rfl ?_; simp only [pz]
     refine tkD 9 (some 34) rfl ?_; simp only [pz]
     refine tkD 10 (some 35) rfl ?_; simp only [pz]
     refine tkO 11 (some 36) rfl ?_; simp only [pz]
     refine tkO 12 (some 37) rfl ?_; simp only [pz]
     refine tkO 13 (some 38) rfl ?_; simp only [pz]
     refine tkO 14 (some 39) rfl ?_; simp only [pz]
     refine tkO 15 (some 40) rfl ?_; simp only [pz]
     refine tkO 16 (some 41) rfl ?_; simp only [pz]
     refine tkO 17 (some 42) rfl ?_; simp only [pz]
     refine tkO 18 (some 43) rfl ?_; simp only [pz]
     refine tkO 19 (some 44) rfl ?_; simp only [pz]
     refine tkO 20 (some 45) rfl ?_; simp only [pz]
     refine tkO 21 (some 46) rfl ?_; simp only [pz]
     refine tkO 22 (some 47) rfl ?_; simp only [pz]
     refine tkO 23 (some 48) rfl ?_; simp only [pz]
     refine tkO 24 (some 49) rfl ?_; simp only [pz]
     refine tkD 25 (some 50) rfl ?_; simp only [pz]
     refine wpAnyH_done (by kernel_rfl) ?_ _; (try simp only [pz])
     obtain ⟨k1, k2, k3, k4, kB, kz⟩ := hHeld
     go_wp2
     go_ret
     exact ⟨ret_b (isTr_f hlt (fixOk_b g2)).symm, kB⟩
    ·match k, hk, Hok, hlt, c0, c1, c2, hi1, hi2, g1, g2 with
     | 0, hk, Hok, hlt, c0, c1, c2, hi1, hi2, g1, g2 =>
      simp only [Nat.zero_mul, Nat.add_zero] at c0 c1 c2
      go_upto_region 8 with fail
      refine wp_region_held_drew (S := (fun W => W.cell? ⟨w.heap.size, 0, none⟩ = some ((.slice (some ⟨b, o, none⟩) n cap)) ∧ W.cell? ⟨wr.heap.size, 0, none⟩ = some (.int .i64 (T 0)) ∧ W.cell? ⟨wr.heap.size, 1, none⟩ = some (.int .i64 (X 0)) ∧ W.cell? ⟨wr.heap.size, 2, none⟩ = some (.int .i64 (Y 0)) ∧ Below w.heap.size w W ∧ w.heap.size + 1 ≤ W.heap.size)) (by kernel_rfl) ?_ (fun hHeld => ?_)
      ·exact ⟨(by go_simp; done), (by go_simp; done), (by go_simp; done), (by go_simp; done), bwz, (by first | (simp; done) | (simp; omega) | omega)⟩
      refine tkD 0 (some 25) rfl ?_; simp only [pz]
      refine tkD 1 (some 26) rfl ?_; simp only [pz]
      refine rd1 2 (some 27) rfl (fun K hK => ?_)
      go_simp; (go_at_call 46; (with_reducible refine (spec_l01In _ _ _ _).mono ?_); rintro e w9 ⟨rfl, rfl⟩)
      all_goals (try go_wp2_with fail)
      refine hK.out _ _ ?_ (fun hH2 => ?_)
      ·(try dsimp only); first | (obtain ⟨k1, k2, k3, k4, kB, kz⟩ := hHeld; exact ⟨cell_later hb k1, cell_later hb k2, cell_later hb k3, cell_later hb k4, bstep kB hb, bsize kz hb⟩) | (obtain ⟨k1, k2, k3, k4, kB, kz⟩ := hHeld; exact ⟨k1, k2, k3, k4, kB, kz⟩)
      clear hK K hHeld; (have hHeld := hH2); clear hH2; (try simp only [pz])
      refine tkD 3 (some 28) rfl ?_; simp only [pz]
      refine tkD 4 (some 29) rfl ?_; simp only [pz]
      refine tkD 5 (some 30) rfl ?_; simp only [pz]
      refine rd1 6 (some 31) rfl (fun K hK => ?_)
      go_simp; (go_at_call 53; (with_reducible refine (spec_l03Point _ _ _ _).mono ?_); rintro e w9 ⟨rfl, hb⟩; have hzz := hb.size; (try simp at hzz); have hn0 : ¬ w9.heap.size = w.heap.size := (by omega); have hm0 : ¬ w.heap.size = w9.heap.size := (by omega); have z0 : w.heap.size < w9.heap.size := (by omega); obtain ⟨hc, hf⟩ := bcell hb)
      all_goals (try go_wp2_with fail)
      refine hK.out _ _ ?_ (fun hH2 => ?_)
      ·(try dsimp only); first | (obtain ⟨k1, k2, k3, k4, kB, kz⟩ := hHeld; exact ⟨cell_later hb k1, cell_later hb k2, cell_later hb k3, cell_later hb k4, bstep kB hb, bsize kz hb⟩) | (obtain ⟨k1, k2, k3, k4, kB, kz⟩ := hHeld; exact ⟨k1, k2, k3, k4, kB, kz⟩)
      clear hK K hHeld; (have hHeld := hH2); clear hH2; (try simp only [pz])
      refine rd1 7 (some 32) rfl (fun K hK => ?_)
      go_simp; (go_at_call 37; (with_reducible refine (spec_IsPoint _ _ _).mono ?_); rintro e w9 ⟨rfl, hb⟩; have hzz := hb.size; (try simp at hzz); have hn0 : ¬ w9.heap.size = w.heap.size := (by omega); have hm0 : ¬ w.heap.size = w9.heap.size := (by omega); have z0 : w.heap.size < w9.heap.size := (by omega); obtain ⟨hc, hf⟩ := bcell hb)
      all_goals (try go_wp2_with fail)
      refine hK.out _ _ ?_ (fun hH2 => ?_)
      ·(try dsimp only); first | (obtain ⟨k1, k2, k3, k4, kB, kz⟩ := hHeld; exact ⟨cell_later hb k1, cell_later hb k2, cell_later hb k3, cell_later hb k4, bstep kB hb, bsize kz hb⟩) | (obtain ⟨k1, k2, k3, k4, kB, kz⟩ := hHeld; exact ⟨k1, k2, k3, k4, kB, kz⟩)
      clear hK K hHeld; (have hHeld := hH2); clear hH2; (try simp only [pz])
      refine tkD 8 (some 33) rfl ?_; simp only [pz]
      refine tkD 9 (some 34) rfl ?_; simp only [pz]
      refine tkD 10 (some 35) rfl ?_; simp only [pz]
      refine tkD 11 (some 36) rfl ?_; simp only [pz]
      refine tkD 12 (some 37) rfl ?_; simp only [pz]
      refine tkD 13 (some 38) rfl ?_; simp only [pz]
      refine tkO 14 (some 39) rfl ?_; simp only [pz]
      refine tkO 15 (some 40) rfl ?_; simp only [pz]
      refine tkO 16 (some 41) rfl ?_; simp only [pz]
      refine tkO 17 (some 42) rfl ?_; simp only [pz]
      refine tkO 18 (some 43) rfl ?_; simp only [pz]
      refine tkO 19 (some 44) rfl ?_; simp only [pz]
      refine tkO 20 (some 45) rfl ?_; simp only [pz]
      refine tkO 21 (some 46) rfl ?_; simp only [pz]
      refine tkO 22 (some 47) rfl ?_; simp only [pz]
      refine tkO 23 (some 48) rfl ?_; simp only [pz]
      refine tkD 24 (some 49) rfl ?_; simp only [pz]
      refine tkD 25 (some 50) rfl ?_; simp only [pz]
      refine wpAnyH_done (by kernel_rfl) ?_ _; (try simp only [pz])
      obtain ⟨k1, k2, k3, k4, kB, kz⟩ := hHeld
      go_wp2
      (go_roundw; (case rel => exact ⟨0 + 1, by omega, by go_num, hide (fixes_step Hok.out (fixOk_0 g1 g2)), k1, kB, kz⟩); (case measure => simp [intOf]; omega))
     | j + 1, hk, Hok, hlt, c0, c1, c2, hi1, hi2, g1, g2 =>
      have hj1 : (0 : Int) ≤ (j : Int) := by omega
      have hj2 : (j : Int) < (n : Int) := by omega
      have hj4 : (0 : Int) < (j : Int) + 1 := by omega
      have d0 := ((RowAt.later hbl h).on3 j (by omega)).1
      have we : IntKind.i64.wrap ((j : Int) + 1 - 1) = (j : Int) := by rw [Int.add_sub_cancel]; exact IntWalk.i64_in _ (by omega)
      have we2 : IntKind.i64.wrap (j : Int) = (j : Int) := IntWalk.i64_in _ (by omega)
      go_upto_region 8 with fail
      refine wp_region_held_drew (S := (fun W => W.cell? ⟨w.heap.size, 0, none⟩ = some ((.slice (some ⟨b, o, none⟩) n cap)) ∧ W.cell? ⟨wr.heap.size, 0, none⟩ = some (.int .i64 (T (j + 1))) ∧ W.cell? ⟨wr.heap.size, 1, none⟩ = some (.int .i64 (X (j + 1))) ∧ W.cell? ⟨wr.heap.size, 2, none⟩ = some (.int .i64 (Y (j + 1))) ∧ W.cell? ⟨b, o + j * 3, none⟩ = some (.int .i64 (T j)) ∧ Below w.heap.size w W ∧ w.heap.size + 1 ≤ W.heap.size)) (by kernel_rfl) ?_ (fun hHeld => ?_)
      ·exact ⟨(by go_simp; done), (by go_simp; done), (by go_simp; done), (by go_simp; done), (by go_simp; done), bwz, (by first | (simp; done) | (simp; omega) | omega)⟩
      refine tkD 0 (some 25) rfl ?_; simp only [pz]
      refine tkD 1 (some 26) rfl ?_; simp only [pz]
      refine rd1 2 (some 27) rfl (fun K hK => ?_)
      go_simp; (go_at_call 46; (with_reducible refine (spec_l01In _ _ _ _).mono ?_); rintro e w9 ⟨rfl, rfl⟩)
      all_goals (try go_wp2_with fail)
      refine hK.out _ _ ?_ (fun hH2 => ?_)
      ·(try dsimp only); first | (obtain ⟨k1, k2, k3, k4, k5, kB, kz⟩ := hHeld; exact ⟨cell_later hb k1, cell_later hb k2, cell_later hb k3, cell_later hb k4, cell_later hb k5, bstep kB hb, bsize kz hb⟩) | (obtain ⟨k1, k2, k3, k4, k5, kB, kz⟩ := hHeld; exact ⟨k1, k2, k3, k4, k5, kB, kz⟩)
      clear hK K hHeld; (have hHeld := hH2); clear hH2; (try simp only [pz])
      refine tkD 3 (some 28) rfl ?_; simp only [pz]
      refine tkD 4 (some 29) rfl ?_; simp only [pz]
      refine tkD 5 (some 30) rfl ?_; simp only [pz]
      refine rd1 6 (some 31) rfl (fun K hK => ?_)
      go_simp; (go_at_call 53; (with_reducible refine (spec_l03Point _ _ _ _).mono ?_); rintro e w9 ⟨rfl, hb⟩; have hzz := hb.size; (try simp at hzz); have hn0 : ¬ w9.heap.size = w.heap.size := (by omega); have hm0 : ¬ w.heap.size = w9.heap.size := (by omega); have z0 : w.heap.size < w9.heap.size := (by omega); obtain ⟨hc, hf⟩ := bcell hb)
      all_goals (try go_wp2_with fail)
      refine hK.out _ _ ?_ (fun hH2 => ?_)
      ·(try dsimp only); first | (obtain ⟨k1, k2, k3, k4, k5, kB, kz⟩ := hHeld; exact ⟨cell_later hb k1, cell_later hb k2, cell_later hb k3, cell_later hb k4, cell_later hb k5, bstep kB hb, bsize kz hb⟩) | (obtain ⟨k1, k2, k3, k4, k5, kB, kz⟩ := hHeld; exact ⟨k1, k2, k3, k4, k5, kB, kz⟩)
      clear hK K hHeld; (have hHeld := hH2); clear hH2; (try simp only [pz])
      refine rd1 7 (some 32) rfl (fun K hK => ?_)
      go_simp; (go_at_call 37; (with_reducible refine (spec_IsPoint _ _ _).mono ?_); rintro e w9 ⟨rfl, hb⟩; have hzz := hb.size; (try simp at hzz); have hn0 : ¬ w9.heap.size = w.heap.size := (by omega); have hm0 : ¬ w.heap.size = w9.heap.size := (by omega); have z0 : w.heap.size < w9.heap.size := (by omega); obtain ⟨hc, hf⟩ := bcell hb)
      all_goals (try go_wp2_with fail)
      refine hK.out _ _ ?_ (fun hH2 => ?_)
      ·(try dsimp only); first | (obtain ⟨k1, k2, k3, k4, k5, kB, kz⟩ := hHeld; exact ⟨cell_later hb k1, cell_later hb k2, cell_later hb k3, cell_later hb k4, cell_later hb k5, bstep kB hb, bsize kz hb⟩) | (obtain ⟨k1, k2, k3, k4, k5, kB, kz⟩ := hHeld; exact ⟨k1, k2, k3, k4, k5, kB, kz⟩)
      clear hK K hHeld; (have hHeld := hH2); clear hH2; (try simp only [pz])
      refine tkD 8 (some 33) rfl ?_; simp only [pz]
      refine tkD 9 (some 34) rfl ?_; simp only [pz]
      refine tkD 10 (some 35) rfl ?_; simp only [pz]
      refine tkD 11 (some 36) rfl ?_; simp only [pz]
      refine tkD 12 (some 37) rfl ?_; simp only [pz]
      refine tkD 13 (some 38) rfl ?_; simp only [pz]
      refine tkD 14 (some 39) rfl ?_; simp only [pz]
      refine tkD 15 (some 40) rfl ?_; simp only [pz]
      refine tkD 16 (some 41) rfl ?_; simp only [pz]
      refine tkD 17 (some 42) rfl ?_; simp only [pz]
      refine tkD 18 (some 43) rfl ?_; simp only [pz]
      refine tkD 19 (some 44) rfl ?_; simp only [pz]
      refine tkD 20 (some 45) rfl ?_; simp only [pz]
      refine tkD 21 (some 46) rfl ?_; simp only [pz]
      refine tkD 22 (some 47) rfl ?_; simp only [pz]
      refine tkD 23 (some 48) rfl ?_; simp only [pz]
      refine tkD 24 (some 49) rfl ?_; simp only [pz]
      refine tkD 25 (some 50) rfl ?_; simp only [pz]
      refine wpAnyH_done (by kernel_rfl) ?_ _; (try simp only [pz])
      obtain ⟨k1, k2, k3, k4, k5, kB, kz⟩ := hHeld
      clear we we2
      by_cases g3 : T (j + 1) ≤ T j
      ·(go_wp2; go_ret; exact ⟨ret_b (isTr_f hlt (fixOk_2 g3)).symm, kB⟩)
      ·(go_wp2; (go_roundw; (case rel => exact ⟨(j + 1) + 1, by omega, by go_num, hide (fixes_step Hok.out (fixOk_1 g1 g2 (by omega))), k1, kB, kz⟩); (case measure => simp [intOf]; omega)))
  ·
   obtain rfl : k = n := by omega
   have Hr := hide (show isTr k T X Y = true by unfold isTr; rw [Hok.out, Bool.true_and]; exact decide_eq_true (by omega))
   clear Hok
   go_wp2
   go_ret
   exact ⟨ret_b Hr.out.symm, hbl⟩
end Go.Proofs.YthlnpcneicmblaaGreatDoor
namespace Go.Proofs.YthlnpcneicmblaaGreatDoor
open Go.RowKit

set_option maxRecDepth 100000 in
set_option maxHeartbeats 4000000 in
theorem impl_IsTrack (so : Option Addr) (n cap : Nat) (T X Y : Nat → Int) (w : World) (h : RowAt w so n 3 (v3 T X Y)) (hn : n ≤ 1048576) :
 Calls Tryz.prog 57 #[.agg #[.slice so n cap]] w fun e w' => e = .returned (.bool (isTr n T X Y)) ∧ Below w.heap.size w w' := by
 go_enter Tryz.func57, Tryz.ntmps57
 go_wp2
 go_loopw [8] (fun i wr => ∃ k : Nat, k ≤ n ∧ i = .int .i64 k ∧ Hid (fixesOk T X Y k = true) ∧ wr.cell? ⟨w.heap.size, 0, none⟩ = some (.slice so n cap) ∧ Below w.heap.size w wr ∧ w.heap.size + 1 ≤ wr.heap.size) (fun i _ => n - (intOf i).toNat)
 case atStart => exact ⟨0, Nat.zero_le _, rfl, hide rfl, by go_simp, bwz, by simp⟩
 case round =>
  obtain ⟨k, hk, rfl, Hok, hcell, hbl, hsz⟩ := hrel
  by_cases hlt : k < n
  ·obtain ⟨b, o, rfl, hbs, c0, c1, c2⟩ := (RowAt.later hbl h).at3 k hlt
   have hi1 : (0 : Int) ≤ (k : Int) := by omega
   have hi2 : (k : Int) < (n : Int) := by omega
   have nz1 : ¬ wr.heap.size = w.heap.size := by omega
   have nz2 : ¬ w.heap.size = wr.heap.size := by omega
   have nz3 : ¬ b = wr.heap.size := by omega
   have nz4 : ¬ wr.heap.size = b := by omega
   have nz5 : w.heap.size < wr.heap.size := by omega
   rcases b2 (inB (T k) 0 1000000000) with g1 | g1
   ·go_upto_region 4 with fail
    refine wp_region_held_drew (S := (fun W => W.cell? ⟨w.heap.size, 0, none⟩ = some ((.slice (some ⟨b, o, none⟩) n cap)) ∧ W.cell? ⟨wr.heap.size, 0, none⟩ = some (.int .i64 (T k)) ∧ W.cell? ⟨wr.heap.size, 1, none⟩ = some (.int .i64 (X k)) ∧ W.cell? ⟨wr.heap.size, 2, none⟩ = some (.int .i64 (Y k)) ∧ Below w.heap.size w W ∧ w.heap.size + 1 ≤ W.heap.size)) (by kernel_rfl) ?_ (fun hHeld => ?_)
    ·exact ⟨(by go_simp; done), (by go_simp; done), (by go_simp; done), (by go_simp; done), bwz, (by first | (simp; done) | (simp; omega) | omega)⟩
    refine tkD 0 (some 13) rfl ?_; simp only [pz]
    refine tkD 1 (some 14) rfl ?_; simp only [pz]
    refine rd1 2 (some 15) rfl (fun K hK => ?_)
    go_simp; (go_at_call 76; (with_reducible refine (impl_isTime _ _).mono ?_); rintro e w9 ⟨rfl, rfl⟩)
    all_goals (try go_wp2_with fail)
    refine hK.out _ _ ?_ (fun hH2 => ?_)
    ·(try dsimp only); first | (obtain ⟨k1, k2, k3, k4, kB, kz⟩ := hHeld; exact ⟨cell_later hb k1, cell_later hb k2, cell_later hb k3, cell_later hb k4, bstep kB hb, bsize kz hb⟩) | (obtain ⟨k1, k2, k3, k4, kB, kz⟩ := hHeld; exact ⟨k1, k2, k3, k4, kB, kz⟩)
    clear hK K hHeld; (have hHeld := hH2); clear hH2; (try simp only [pz])
    refine tkD 3 (some 16) rfl ?_; simp only [pz]
    refine tkD 4 (some 17) rfl ?_; simp only [pz]
    refine tkO 5 (some 18) rfl ?_; simp only [pz]
    refine tkO 6 (some 19) rfl ?_; simp only [pz]
    refine tkO 7 (some 20) rfl ?_; simp only [pz]
    refine tkO 8 (some 21) rfl ?_; simp only [pz]
    refine tkD 9 (some 22) rfl ?_; simp only [pz]
    refine tkD 10 (some 23) rfl ?_; simp only [pz]
    refine tkO 11 (some 24) rfl ?_; simp only [pz]
    refine tkO 12 (some 25) rfl ?_; simp only [pz]
    refine tkO 13 (some 26) rfl ?_; simp only [pz]
    refine tkO 14 (some 27) rfl ?_; simp only [pz]
    refine tkO 15 (some 28) rfl ?_; simp only [pz]
    refine tkO 16 (some 29) rfl ?_; simp only [pz]
    refine tkO 17 (some 30) rfl ?_; simp only [pz]
    refine tkO 18 (some 31) rfl ?_; simp only [pz]
    refine tkO 19 (some 32) rfl ?_; simp only [pz]
    refine tkO 20 (some 33) rfl ?_; simp only [pz]
    refine tkO 21 (some 34) rfl ?_; simp only [pz]
    refine tkO 22 (some 35) rfl ?_; simp only [pz]
    refine tkO 23 (some 36) rfl ?_; simp only [pz]
    refine tkO 24 (some 37) rfl ?_; simp only [pz]
    refine tkD 25 (some 38) rfl ?_; simp only [pz]
    refine wpAnyH_done (by kernel_rfl) ?_ _; (try simp only [pz])
    obtain ⟨k1, k2, k3, k4, kB, kz⟩ := hHeld
    go_wp2
    go_ret
    exact ⟨ret_b (isTr_f hlt (fixOk_a g1)).symm, kB⟩
   ·rcases b2 (isPt (X k) (Y k)) with g2 | g2
    ·go_upto_region 4 with fail
     refine wp_region_held_drew (S := (fun W => W.cell? ⟨w.heap.size, 0, none⟩ = some ((.slice (some ⟨b, o, none⟩) n cap)) ∧ W.cell? ⟨wr.heap.size, 0, none⟩ = some (.int .i64 (T k)) ∧ W.cell? ⟨wr.heap.size, 1, none⟩ = some (.int .i64 (X k)) ∧ W.cell? ⟨wr.heap.size, 2, none⟩ = some (.int .i64 (Y k)) ∧ Below w.heap.size w W ∧ w.heap.size + 1 ≤ W.heap.size)) (by kernel_rfl) ?_ (fun hHeld => ?_)
     ·exact ⟨(by go_simp; done), (by go_simp; done), (by go_simp; done), (by go_simp; done), bwz, (by first | (simp; done) | (simp; omega) | omega)⟩
     refine tkD 0 (some 13) rfl ?_; simp only [pz]
     refine tkD 1 (some 14) rfl ?_; simp only [pz]
     refine rd1 2 (some 15) rfl (fun K hK => ?_)
     go_simp; (go_at_call 76; (with_reducible refine (impl_isTime _ _).mono ?_); rintro e w9 ⟨rfl, rfl⟩)
     all_goals (try go_wp2_with fail)
     refine hK.out _ _ ?_ (fun hH2 => ?_)
     ·(try dsimp only); first | (obtain ⟨k1, k2, k3, k4, kB, kz⟩ := hHeld; exact ⟨cell_later hb k1, cell_later hb k2, cell_later hb k3, cell_later hb k4, bstep kB hb, bsize kz hb⟩) | (obtain ⟨k1, k2, k3, k4, kB, kz⟩ := hHeld; exact ⟨k1, k2, k3, k4, kB, kz⟩)
     clear hK K hHeld; (have hHeld := hH2); clear hH2; (try simp only [pz])
     refine tkD 3 (some 16) rfl ?_; simp only [pz]
     refine tkD 4 (some 17) rfl ?_; simp only [pz]
     refine tkD 5 (some 18) rfl ?_; simp only [pz]
     refine rd1 6 (some 19) rfl (fun K hK => ?_)
     go_simp; (go_at_call 78; (with_reducible refine (impl_pointOf _ _ _ _).mono ?_); rintro e w9 ⟨rfl, hb⟩; have hzz := hb.size; (try simp at hzz); have hn0 : ¬ w9.heap.size = w.heap.size := (by omega); have hm0 : ¬ w.heap.size = w9.heap.size := (by omega); have z0 : w.heap.size < w9.heap.size := (by omega); obtain ⟨hc, hf⟩ := bcell hb)
     all_goals (try go_wp2_with fail)
     refine hK.out _ _ ?_ (fun hH2 => ?_)
     ·(try dsimp only); first | (obtain ⟨k1, k2, k3, k4, kB, kz⟩ := hHeld; exact ⟨cell_later hb k1, cell_later hb k2, cell_later hb k3, cell_later hb k4, bstep kB hb, bsize kz hb⟩) | (obtain ⟨k1, k2, k3, k4, kB, kz⟩ := hHeld; exact ⟨k1, k2, k3, k4, kB, kz⟩)
     clear hK K hHeld; (have hHeld := hH2); clear hH2; (try simp only [pz])
     refine rd1 7 (some 20) rfl (fun K hK => ?_)
     go_simp; (go_at_call 77; (with_reducible refine (impl_IsPoint _ _ _).mono ?_); rintro e w9 ⟨rfl, hb⟩; have hzz := hb.size; (try simp at hzz); have hn0 : ¬ w9.heap.size = w.heap.size := (by omega); have hm0 : ¬ w.heap.size = w9.heap.size := (by omega); have z0 : w.heap.size < w9.heap.size := (by omega); obtain ⟨hc, hf⟩ := bcell hb)
     all_goals (try go_wp2_with fail)
     refine hK.out _ _ ?_ (fun hH2 => ?_)
     ·(try dsimp only); first | (obtain ⟨k1, k2, k3, k4, kB, kz⟩ := hHeld; exact ⟨cell_later hb k1, cell_later hb k2, cell_later hb k3, cell_later hb k4, bstep kB hb, bsize kz hb⟩) | (obtain ⟨k1, k2, k3, k4, kB, kz⟩ := hHeld; exact ⟨k1, k2, k3, k4, kB, kz⟩)
     clear hK K hHeld; (have hHeld := hH2); clear hH2; (try simp only [pz])
     refine tkD 8 (some 21) rfl ?_; simp only [pz]
     refine tkD 9 (some 22) rfl ?_; simp only [pz]
     refine tkD 10 (some 23) rfl ?_; simp only [pz]
     refine tkO 11 (some 24) rfl ?_; simp only [pz]
     refine tkO 12 (some 25) rfl ?_; simp only [pz]
     refine tkO 13 (some 26) rfl ?_; simp only [pz]
     refine tkO 14 (some 27) rfl ?_; simp only [pz]
     refine tkO 15 (some 28) rfl ?_; simp only [pz]
     refine tkO 16 (some 29) rfl ?_; simp only [pz]
     refine tkO 17 (some 30) rfl ?_; simp only [pz]
     refine tkO 18 (some 31) rfl ?_; simp only [pz]
     refine tkO 19 (some 32) rfl ?_; simp only [pz]
     refine tkO 20 (some 33) rfl ?_; simp only [pz]
     refine tkO 21 (some 34) rfl ?_; simp only [pz]
     refine tkO 22 (some 35) rfl ?_; simp only [pz]
     refine tkO 23 (some 36) rfl ?_; simp only [pz]
     refine tkO 24 (some 37) rfl ?_; simp only [pz]
     refine tkD 25 (some 38) rfl ?_; simp only [pz]
     refine wpAnyH_done (by kernel_rfl) ?_ _; (try simp only [pz])
     obtain ⟨k1, k2, k3, k4, kB, kz⟩ := hHeld
     go_wp2
     go_ret
     exact ⟨ret_b (isTr_f hlt (fixOk_b g2)).symm, kB⟩
    ·match k, hk, Hok, hlt, c0, c1, c2, hi1, hi2, g1, g2 with
     | 0, hk, Hok, hlt, c0, c1, c2, hi1, hi2, g1, g2 =>
      simp only [Nat.zero_mul, Nat.add_zero] at c0 c1 c2
      go_upto_region 4 with fail
      refine wp_region_held_drew (S := (fun W => W.cell? ⟨w.heap.size, 0, none⟩ = some ((.slice (some ⟨b, o, none⟩) n cap)) ∧ W.cell? ⟨wr.heap.size, 0, none⟩ = some (.int .i64 (T 0)) ∧ W.cell? ⟨wr.heap.size, 1, none⟩ = some (.int .i64 (X 0)) ∧ W.cell? ⟨wr.heap.size, 2, none⟩ = some (.int .i64 (Y 0)) ∧ Below w.heap.size w W ∧ w.heap.size + 1 ≤ W.heap.size)) (by kernel_rfl) ?_ (fun hHeld => ?_)
      ·exact ⟨(by go_simp; done), (by go_simp; done), (by go_simp; done), (by go_simp; done), bwz, (by first | (simp; done) | (simp; omega) | omega)⟩
      refine tkD 0 (some 13) rfl ?_; simp only [pz]
      refine tkD 1 (some 14) rfl ?_; simp only [pz]
      refine rd1 2 (some 15) rfl (fun K hK => ?_)
      go_simp; (go_at_call 76; (with_reducible refine (impl_isTime _ _).mono ?_); rintro e w9 ⟨rfl, rfl⟩)
      all_goals (try go_wp2_with fail)
      refine hK.out _ _ ?_ (fun hH2 => ?_)
      ·(try dsimp only); first | (obtain ⟨k1, k2, k3, k4, kB, kz⟩ := hHeld; exact ⟨cell_later hb k1, cell_later hb k2, cell_later hb k3, cell_later hb k4, bstep kB hb, bsize kz hb⟩) | (obtain ⟨k1, k2, k3, k4, kB, kz⟩ := hHeld; exact ⟨k1, k2, k3, k4, kB, kz⟩)
      clear hK K hHeld; (have hHeld := hH2); clear hH2; (try simp only [pz])
      refine tkD 3 (some 16) rfl ?_; simp only [pz]
      refine tkD 4 (some 17) rfl ?_; simp only [pz]
      refine tkD 5 (some 18) rfl ?_; simp only [pz]
      refine rd1 6 (some 19) rfl (fun K hK => ?_)
      go_simp; (go_at_call 78; (with_reducible refine (impl_pointOf _ _ _ _).mono ?_); rintro e w9 ⟨rfl, hb⟩; have hzz := hb.size; (try simp at hzz); have hn0 : ¬ w9.heap.size = w.heap.size := (by omega); have hm0 : ¬ w.heap.size = w9.heap.size := (by omega); have z0 : w.heap.size < w9.heap.size := (by omega); obtain ⟨hc, hf⟩ := bcell hb)
      all_goals (try go_wp2_with fail)
      refine hK.out _ _ ?_ (fun hH2 => ?_)
      ·(try dsimp only); first | (obtain ⟨k1, k2, k3, k4, kB, kz⟩ := hHeld; exact ⟨cell_later hb k1, cell_later hb k2, cell_later hb k3, cell_later hb k4, bstep kB hb, bsize kz hb⟩) | (obtain ⟨k1, k2, k3, k4, kB, kz⟩ := hHeld; exact ⟨k1, k2, k3, k4, kB, kz⟩)
      clear hK K hHeld; (have hHeld := hH2); clear hH2; (try simp only [pz])
      refine rd1 7 (some 20) rfl (fun K hK => ?_)
      go_simp; (go_at_call 77; (with_reducible refine (impl_IsPoint _ _ _).mono ?_); rintro e w9 ⟨rfl, hb⟩; have hzz := hb.size; (try simp at hzz); have hn0 : ¬ w9.heap.size = w.heap.size := (by omega); have hm0 : ¬ w.heap.size = w9.heap.size := (by omega); have z0 : w.heap.size < w9.heap.size := (by omega); obtain ⟨hc, hf⟩ := bcell hb)
      all_goals (try go_wp2_with fail)
      refine hK.out _ _ ?_ (fun hH2 => ?_)
      ·(try dsimp only); first | (obtain ⟨k1, k2, k3, k4, kB, kz⟩ := hHeld; exact ⟨cell_later hb k1, cell_later hb k2, cell_later hb k3, cell_later hb k4, bstep kB hb, bsize kz hb⟩) | (obtain ⟨k1, k2, k3, k4, kB, kz⟩ := hHeld; exact ⟨k1, k2, k3, k4, kB, kz⟩)
      clear hK K hHeld; (have hHeld := hH2); clear hH2; (try simp only [pz])
      refine tkD 8 (some 21) rfl ?_; simp only [pz]
      refine tkD 9 (some 22) rfl ?_; simp only [pz]
      refine tkD 10 (some 23) rfl ?_; simp only [pz]
      refine tkD 11 (some 24) rfl ?_; simp only [pz]
      refine tkD 12 (some 25) rfl ?_; simp only [pz]
      refine tkD 13 (some 26) rfl ?_; simp only [pz]
      refine tkO 14 (some 27) rfl ?_; simp only [pz]
      refine tkO 15 (some 28) rfl ?_; simp only [pz]
      refine tkO 16 (some 29) rfl ?_; simp only [pz]
      refine tkO 17 (some 30) rfl ?_; simp only [pz]
      refine tkO 18 (some 31) rfl ?_; simp only [pz]
      refine tkO 19 (some 32) rfl ?_; simp only [pz]
      refine tkO 20 (some 33) rfl ?_; simp only [pz]
      refine tkO 21 (some 34) rfl ?_; simp only [pz]
      refine tkO 22 (some 35) rfl ?_; simp only [pz]
      refine tkO 23 (some 36) rfl ?_; simp only [pz]
      refine tkD 24 (some 37) rfl ?_; simp only [pz]
      refine tkD 25 (some 38) rfl ?_; simp only [pz]
      refine wpAnyH_done (by kernel_rfl) ?_ _; (try simp only [pz])
      obtain ⟨k1, k2, k3, k4, kB, kz⟩ := hHeld
      go_wp2
      (go_roundw; (case rel => exact ⟨0 + 1, by omega, by go_num, hide (fixes_step Hok.out (fixOk_0 g1 g2)), k1, kB, kz⟩); (case measure => simp [intOf]; omega))
     | j + 1, hk, Hok, hlt, c0, c1, c2, hi1, hi2, g1, g2 =>
      have hj1 : (0 : Int) ≤ (j : Int) := by omega
      have hj2 : (j : Int) < (n : Int) := by omega
      have hj4 : (0 : Int) < (j : Int) + 1 := by omega
      have d0 := ((RowAt.later hbl h).on3 j (by omega)).1
      have we : IntKind.i64.wrap ((j : Int) + 1 - 1) = (j : Int) := by rw [Int.add_sub_cancel]; exact IntWalk.i64_in _ (by omega)
      have we2 : IntKind.i64.wrap (j : Int) = (j : Int) := IntWalk.i64_in _ (by omega)
      go_upto_region 4 with fail
      refine wp_region_held_drew (S := (fun W => W.cell? ⟨w.heap.size, 0, none⟩ = some ((.slice (some ⟨b, o, none⟩) n cap)) ∧ W.cell? ⟨wr.heap.size, 0, none⟩ = some (.int .i64 (T (j + 1))) ∧ W.cell? ⟨wr.heap.size, 1, none⟩ = some (.int .i64 (X (j + 1))) ∧ W.cell? ⟨wr.heap.size, 2, none⟩ = some (.int .i64 (Y (j + 1))) ∧ W.cell? ⟨b, o + j * 3, none⟩ = some (.int .i64 (T j)) ∧ Below w.heap.size w W ∧ w.heap.size + 1 ≤ W.heap.size)) (by kernel_rfl) ?_ (fun hHeld => ?_)
      ·exact ⟨(by go_simp; done), (by go_simp; done), (by go_simp; done), (by go_simp; done), (by go_simp; done), bwz, (by first | (simp; done) | (simp; omega) | omega)⟩
      refine tkD 0 (some 13) rfl ?_; simp only [pz]
      refine tkD 1 (some 14) rfl ?_; simp only [pz]
      refine rd1 2 (some 15) rfl (fun K hK => ?_)
      go_simp; (go_at_call 76; (with_reducible refine (impl_isTime _ _).mono ?_); rintro e w9 ⟨rfl, rfl⟩)
      all_goals (try go_wp2_with fail)
      refine hK.out _ _ ?_ (fun hH2 => ?_)
      ·(try dsimp only); first | (obtain ⟨k1, k2, k3, k4, k5, kB, kz⟩ := hHeld; exact ⟨cell_later hb k1, cell_later hb k2, cell_later hb k3, cell_later hb k4, cell_later hb k5, bstep kB hb, bsize kz hb⟩) | (obtain ⟨k1, k2, k3, k4, k5, kB, kz⟩ := hHeld; exact ⟨k1, k2, k3, k4, k5, kB, kz⟩)
      clear hK K hHeld; (have hHeld := hH2); clear hH2; (try simp only [pz])
      refine tkD 3 (some 16) rfl ?_; simp only [pz]
      refine tkD 4 (some 17) rfl ?_; simp only [pz]
      refine tkD 5 (some 18) rfl ?_; simp only [pz]
      refine rd1 6 (some 19) rfl (fun K hK => ?_)
      go_simp; (go_at_call 78; (with_reducible refine (impl_pointOf _ _ _ _).mono ?_); rintro e w9 ⟨rfl, hb⟩; have hzz := hb.size; (try simp at hzz); have hn0 : ¬ w9.heap.size = w.heap.size := (by omega); have hm0 : ¬ w.heap.size = w9.heap.size := (by omega); have z0 : w.heap.size < w9.heap.size := (by omega); obtain ⟨hc, hf⟩ := bcell hb)
      all_goals (try go_wp2_with fail)
      refine hK.out _ _ ?_ (fun hH2 => ?_)
      ·(try dsimp only); first | (obtain ⟨k1, k2, k3, k4, k5, kB, kz⟩ := hHeld; exact ⟨cell_later hb k1, cell_later hb k2, cell_later hb k3, cell_later hb k4, cell_later hb k5, bstep kB hb, bsize kz hb⟩) | (obtain ⟨k1, k2, k3, k4, k5, kB, kz⟩ := hHeld; exact ⟨k1, k2, k3, k4, k5, kB, kz⟩)
      clear hK K hHeld; (have hHeld := hH2); clear hH2; (try simp only [pz])
      refine rd1 7 (some 20) rfl (fun K hK => ?_)
      go_simp; (go_at_call 77; (with_reducible refine (impl_IsPoint _ _ _).mono ?_); rintro e w9 ⟨rfl, hb⟩; have hzz := hb.size; (try simp at hzz); have hn0 : ¬ w9.heap.size = w.heap.size := (by omega); have hm0 : ¬ w.heap.size = w9.heap.size := (by omega); have z0 : w.heap.size < w9.heap.size := (by omega); obtain ⟨hc, hf⟩ := bcell hb)
      all_goals (try go_wp2_with fail)
      refine hK.out _ _ ?_ (fun hH2 => ?_)
      ·(try dsimp only); first | (obtain ⟨k1, k2, k3, k4, k5, kB, kz⟩ := hHeld; exact ⟨cell_later hb k1, cell_later hb k2, cell_later hb k3, cell_later hb k4, cell_later hb k5, bstep kB hb, bsize kz hb⟩) | (obtain ⟨k1, k2, k3, k4, k5, kB, kz⟩ := hHeld; exact ⟨k1, k2, k3, k4, k5, kB, kz⟩)
      clear hK K hHeld; (have hHeld := hH2); clear hH2; (try simp only [pz])
      refine tkD 8 (some 21) rfl ?_; simp only [pz]
      refine tkD 9 (some 22) rfl ?_; simp only [pz]
      refine tkD 10 (some 23) rfl ?_; simp only [pz]
      refine tkD 11 (some 24) rfl ?_; simp only [pz]
      refine tkD 12 (some 25) rfl ?_; simp only [pz]
      refine tkD 13 (some 26) rfl ?_; simp only [pz]
      refine tkD 14 (some 27) rfl ?_; simp only [pz]
      refine tkD 15 (some 28) rfl ?_; simp only [pz]
      refine tkD 16 (some 29) rfl ?_; simp only [pz]
      refine tkD 17 (some 30) rfl ?_; simp only [pz]
      refine tkD 18 (some 31) rfl ?_; simp only [pz]
      refine tkD 19 (some 32) rfl ?_; simp only [pz]
      refine tkD 20 (some 33) rfl ?_; simp only [pz]
      refine tkD 21 (some 34) rfl ?_; simp only [pz]
      refine tkD 22 (some 35) rfl ?_; simp only [pz]
      refine tkD 23 (some 36) rfl ?_; simp only [pz]
      refine tkD 24 (some 37) rfl ?_; simp only [pz]
      refine tkD 25 (some 38) rfl ?_; simp only [pz]
      refine wpAnyH_done (by kernel_rfl) ?_ _; (try simp only [pz])
      obtain ⟨k1, k2, k3, k4, k5, kB, kz⟩ := hHeld
      clear we we2
      by_cases g3 : T (j + 1) ≤ T j
      ·(go_wp2; go_ret; exact ⟨ret_b (isTr_f hlt (fixOk_2 g3)).symm, kB⟩)
      ·(go_wp2; (go_roundw; (case rel => exact ⟨(j + 1) + 1, by omega, by go_num, hide (fixes_step Hok.out (fixOk_1 g1 g2 (by omega))), k1, kB, kz⟩); (case measure => simp [intOf]; omega)))
  ·
   obtain rfl : k = n := by omega
   have Hr := hide (show isTr k T X Y = inB (k : Int) 2 40 by unfold isTr; rw [Hok.out, Bool.true_and])
   clear Hok
   go_wp2
   all_goals
    go_ret
    exact ⟨ret_b (by rw [Hr.out]; unfold inB; first | (simp [*]; done) | (simp; omega)), hbl⟩
end Go.Proofs.YthlnpcneicmblaaGreatDoor
