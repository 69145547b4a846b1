/- Walks: the heading at a time. -/
import Derived.Test.YthlnpcneicmblaaGreatDoorTl
import Derived.Deep.DeepCutAuto
namespace Go.Proofs.YthlnpcneicmblaaGreatDoor
open Go.RowKit

theorem impl_wayOf_at (b o n cap : Nat) (T X Y : Nat → Int) (t : Int) (w : World) (h : RowAt w (some ⟨b, o, none⟩) n 3 (v3 T X Y)) (hv : isTr n T X Y = true) (hl : legF T t (n - 2) + 1 < n) :
 Calls Tryz.prog 86 #[.agg #[.slice (some ⟨b, o, none⟩) n cap], .int .i64 (legF T t (n - 2) : Nat)] w fun e w' => e = .returned (.agg #[.int .i64 (wayX n T X t), .int .i64 (wayX n T Y t)]) ∧ Below w.heap.size w w' :=
 impl_wayOf b o n cap _ T X Y w h hv hl
set_option maxRecDepth 100000 in
set_option maxHeartbeats 4000000 in
theorem impl_HeadingAt (so : Option Addr) (n cap : Nat) (T X Y : Nat → Int) (t : Int) (w : World) (h : RowAt w so n 3 (v3 T X Y)) (hn : n ≤ 1048576) :
 Calls Tryz.prog 60 #[.agg #[.slice so n cap], .int .i64 t] w fun e w' => e = .returned (.tuple #[.agg #[.int .i64 (sel (isTr n T X Y && inB t (T 0) (T (n - 1)) && !(wayX n T X t == 0 && wayX n T Y t == 0)) (wayX n T X t) 0), .int .i64 (sel (isTr n T X Y && inB t (T 0) (T (n - 1)) && !(wayX n T X t == 0 && wayX n T Y t == 0)) (wayX n T Y t) 0)], .int .i64 (sel (isTr n T X Y) (sel (inB t (T 0) (T (n - 1))) (sel (wayX n T X t == 0 && wayX n T Y t == 0) 5 0) 2) 1)]) ∧ Below w.heap.size w w' := by
 rcases b3 (isTr n T X Y) (inB t (T 0) (T (n - 1))) with g1 | ⟨g1, g2⟩ | ⟨g1, g2⟩
 ·have Hc := hide (show sel (isTr n T X Y) (sel (inB t (T 0) (T (n - 1))) 0 2) 1 = 1 by simp [sel, g1])
  go_enter Tryz.func60, Tryz.ntmps60
  go_wp2_with (go_at_call 85; (with_reducible refine (impl_trackCode _ _ _ T X Y _ _ (RowAt.later bwz h) hn).mono ?_); rintro e w9 ⟨rfl, hb⟩; rw [Hc.out]; obtain ⟨hc, hf⟩ := bcell hb; have hz := hb.size; (try simp at hz); have z0 : w.heap.size < w9.heap.size := (by omega); have z1 : w.heap.size + 1 < w9.heap.size := (by omega))
  simp [bodyPost, results, Tryz.results60, go_sem, *]
  exact ⟨by simp [sel], bwz⟩
 ·have Hc := hide (show sel (isTr n T X Y) (sel (inB t (T 0) (T (n - 1))) 0 2) 1 = 2 by simp [sel, g1, g2])
  go_enter Tryz.func60, Tryz.ntmps60
  go_wp2_with (go_at_call 85; (with_reducible refine (impl_trackCode _ _ _ T X Y _ _ (RowAt.later bwz h) hn).mono ?_); rintro e w9 ⟨rfl, hb⟩; rw [Hc.out]; obtain ⟨hc, hf⟩ := bcell hb; have hz := hb.size; (try simp at hz); have z0 : w.heap.size < w9.heap.size := (by omega); have z1 : w.heap.size + 1 < w9.heap.size := (by omega))
  simp [bodyPost, results, Tryz.results60, go_sem, *]
  exact ⟨by simp [sel], bwz⟩
 ·have Hc := hide (show sel (isTr n T X Y) (sel (inB t (T 0) (T (n - 1))) 0 2) 1 = 0 by simp [sel, g1, g2])
  obtain ⟨b, o, rfl⟩ := row_some h g1
  obtain ⟨hn2, hn40, _⟩ := isTr_t g1
  have hll := legF_lt T t hn2
  rcases b2 (wayX n T X t == 0) with g3 | g3
  all_goals rcases b2 (wayX n T Y t == 0) with g4 | g4
  all_goals
   go_enter Tryz.func60, Tryz.ntmps60
   go_upto_region 4 with (go_at_call 85; (with_reducible refine (impl_trackCode _ _ _ T X Y _ _ (RowAt.later bwz h) hn).mono ?_); rintro e w9 ⟨rfl, hb⟩; rw [Hc.out]; obtain ⟨hc, hf⟩ := bcell hb; have hz := hb.size; (try simp at hz); have z0 : w.heap.size < w9.heap.size := (by omega); have z1 : w.heap.size + 1 < w9.heap.size := (by omega))
   obtain ⟨wA, rfl⟩ : ∃ wA : World, wA = w9 := ⟨_, rfl⟩
   have zd0 : w.heap.size < wA.drew.heap.size := z0
   have zd1 : w.heap.size + 1 < wA.drew.heap.size := z1
   have nz0 : ¬ wA.heap.size = w.heap.size := by omega
   have nz1 : ¬ wA.heap.size = w.heap.size + 1 := by omega
   have nz2 : ¬ w.heap.size = wA.heap.size := by omega
   have nz3 : ¬ w.heap.size + 1 = wA.heap.size := by omega
   go_cut [7] (fun s7 W => ∃ g : Nat, s7 = .pointer (some ⟨g, 0, none⟩) ∧ W.cell? ⟨g, 0, none⟩ = some (.int .i64 (wayX n T X t)) ∧ W.cell? ⟨g, 1, none⟩ = some (.int .i64 (wayX n T Y t)) ∧ W.cell? ⟨w.heap.size, 0, none⟩ = some ((.slice (some ⟨b, o, none⟩) n cap)) ∧ W.cell? ⟨w.heap.size + 1, 0, none⟩ = some (.int .i64 0) ∧ W.frozen? ⟨w.heap.size + 1, 0, none⟩ = false ∧ W.cell? ⟨w.heap.size + 1, 1, none⟩ = some (.int .i64 0) ∧ W.frozen? ⟨w.heap.size + 1, 1, none⟩ = false ∧ Below w.heap.size w W ∧ w.heap.size + 2 ≤ W.heap.size)
   case first =>
    refine wp_region_held_drew (S := (fun W => W.cell? ⟨w.heap.size, 0, none⟩ = some ((.slice (some ⟨b, o, none⟩) n cap)) ∧ W.cell? ⟨w.heap.size + 1, 0, none⟩ = some (.int .i64 0) ∧ W.frozen? ⟨w.heap.size + 1, 0, none⟩ = false ∧ W.cell? ⟨w.heap.size + 1, 1, none⟩ = some (.int .i64 0) ∧ W.frozen? ⟨w.heap.size + 1, 1, none⟩ = false ∧ Below w.heap.size w W ∧ w.heap.size + 2 ≤ W.heap.size)) (by kernel_rfl) ?_ (fun hHeld => ?_)
    ·exact ⟨(by go_simp; done), (by go_simp; done), (by go_simp; done), (by go_simp; done), (by go_simp; done), bwz, (by first | (simp; done) | (simp; omega) | omega)⟩
    refine tkD 0 (some 15) rfl ?_; simp only [pz]
    refine tkD 1 (some 16) rfl ?_; simp only [pz]
    refine tkD 2 (some 17) rfl ?_; simp only [pz]
    refine wpAnyH_ready (rs := [3, 5]) (by kernel_rfl) (by simp) ?_; refine (AllReadyH.cons (o := ⟨some 18, _, _, _, _, _⟩) rfl (fun K hK => ?_) (AllReadyH.cons (o := ⟨some 7, _, _, _, _, _⟩) rfl (fun K hK => ?_) AllReadyH.nil))
    ·go_simp; (go_at_call 87; (with_reducible refine (impl_legAt _ _ _ _ T X Y _ _ (RowAt.later bwz h) hn40 hn2).mono ?_); rintro e w9 ⟨rfl, hb⟩; have hzz := hb.size; (try simp at hzz); have hn0 : ¬ w9.heap.size = w.heap.size := (by omega); have hm0 : ¬ w.heap.size = w9.heap.size := (by omega); have hn1 : ¬ w9.heap.size = w.heap.size + 1 := (by omega); have hm1 : ¬ w.heap.size + 1 = w9.heap.size := (by omega); have z0 : w.heap.size < w9.heap.size := (by omega); have z1 : w.heap.size + 1 < w9.heap.size := (by omega); obtain ⟨hc, hf⟩ := bcell hb)
     all_goals (try go_wp2_with fail)
     refine hK.out _ _ ?_ (fun hH2 => ?_)
     ·(try dsimp only); first | (obtain ⟨k1, k2, k3, k4, k5, kB, kz⟩ := hHeld; exact ⟨cell_later hb k1, cell_later hb k2, (frozen_later hb k2 k3), cell_later hb k4, (frozen_later hb k4 k5), bstep kB hb, bsize kz hb⟩) | (obtain ⟨k1, k2, k3, k4, k5, kB, kz⟩ := hHeld; exact ⟨k1, k2, k3, k4, k5, kB, kz⟩)
     clear hK K hHeld; (have hHeld := hH2); clear hH2; (try simp only [pz])
     refine wpAnyH_ready (rs := [4, 5]) (by kernel_rfl) (by simp) ?_; refine (AllReadyH.cons (o := ⟨some 19, _, _, _, _, _⟩) rfl (fun K hK => ?_) (AllReadyH.cons (o := ⟨some 7, _, _, _, _, _⟩) rfl (fun K hK => ?_) AllReadyH.nil))
     ·go_simp; (go_at_call 86; (with_reducible refine (impl_wayOf_at _ _ _ _ T X Y t _ (RowAt.later bwz h) g1 hll).mono ?_); rintro e w9 ⟨rfl, hb⟩; have hzz := hb.size; (try simp at hzz); have hn0 : ¬ w9.heap.size = w.heap.size := (by omega); have hm0 : ¬ w.heap.size = w9.heap.size := (by omega); have hn1 : ¬ w9.heap.size = w.heap.size + 1 := (by omega); have hm1 : ¬ w.heap.size + 1 = w9.heap.size := (by omega); have z0 : w.heap.size < w9.heap.size := (by omega); have z1 : w.heap.size + 1 < w9.heap.size := (by omega); obtain ⟨hc, hf⟩ := bcell hb)
      all_goals (try go_wp2_with fail)
      refine hK.out _ _ ?_ (fun hH2 => ?_)
      ·(try dsimp only); first | (obtain ⟨k1, k2, k3, k4, k5, kB, kz⟩ := hHeld; exact ⟨cell_later hb k1, cell_later hb k2, (frozen_later hb k2 k3), cell_later hb k4, (frozen_later hb k4 k5), bstep kB hb, bsize kz hb⟩) | (obtain ⟨k1, k2, k3, k4, k5, kB, kz⟩ := hHeld; exact ⟨k1, k2, k3, k4, k5, kB, kz⟩)
      clear hK K hHeld; (have hHeld := hH2); clear hH2; (try simp only [pz])
      refine rd1 5 (some 7) rfl (fun K hK => ?_)
      go_simp
      all_goals (try go_wp2_with fail)
      refine hK.out _ _ ?_ (fun hH2 => ?_)
      ·(try dsimp only); obtain ⟨k1, k2, k3, k4, k5, kB, kz⟩ := hHeld; exact ⟨cell_alloc k1, cell_alloc k2, (frozen_alloc k2 k3), cell_alloc k4, (frozen_alloc k4 k5), bwz, (by first | (simp; done) | (simp at kz ⊢; omega) | omega)⟩
      clear hK K hHeld; (have hHeld := hH2); clear hH2; (try simp only [pz])
      have hx := hHeld; obtain ⟨k1, k2, k3, k4, k5, kB, kz⟩ := hx; (first | (have zg5 := alloc_lt kB) | (have zg5 := alloc_lt2 kB rfl)); clear k1 k2 k3 k4 k5 kB kz
      refine rd1 6 none rfl (fun K hK => ?_)
      go_simp
      all_goals (try go_wp2_with fail)
      refine hK.out _ _ ?_ (fun hH2 => ?_)
      ·(try dsimp only); first | (obtain ⟨k1, k2, k3, k4, k5, kB, kz⟩ := hHeld; (have kz2 := kz); (try simp at kz2); exact ⟨crk k1, crk k2, frk k3, crk k4, frk k5, (by with_reducible refine below_realloc kB ?_; omega), (by first | (simp; done) | (simp at kz ⊢; omega) | omega)⟩) | (obtain ⟨k1, k2, k3, k4, k5, kB, kz⟩ := hHeld; exact ⟨csk k1, csk k2, fsk k3, csk k4, fsk k5, bwz, (by first | (simp; done) | (simp at kz ⊢; omega) | omega)⟩)
      clear hK K hHeld; (have hHeld := hH2); clear hH2; (try simp only [pz])
      refine wpAnyH_done (by kernel_rfl) ?_ _; (try simp only [pz])
      obtain ⟨k1, k2, k3, k4, k5, kB, kz⟩ := hHeld
      go_wp2_with fail
      go_meet
      exact ⟨_, rfl, (by go_simp; done), (by go_simp; done), k1, k2, k3, k4, k5, kB, kz⟩
     ·go_simp
      all_goals (try go_wp2_with fail)
      refine hK.out _ _ ?_ (fun hH2 => ?_)
      ·(try dsimp only); obtain ⟨k1, k2, k3, k4, k5, kB, kz⟩ := hHeld; exact ⟨cell_alloc k1, cell_alloc k2, (frozen_alloc k2 k3), cell_alloc k4, (frozen_alloc k4 k5), bwz, (by first | (simp; done) | (simp at kz ⊢; omega) | omega)⟩
      clear hK K hHeld; (have hHeld := hH2); clear hH2; (try simp only [pz])
      have hx := hHeld; obtain ⟨k1, k2, k3, k4, k5, kB, kz⟩ := hx; (first | (have zg5 := alloc_lt kB) | (have zg5 := alloc_lt2 kB rfl)); clear k1 k2 k3 k4 k5 kB kz
      refine rd1 4 (some 19) rfl (fun K hK => ?_)
      go_simp; (go_at_call 86; (with_reducible refine (impl_wayOf_at _ _ _ _ T X Y t _ (RowAt.later bwz h) g1 hll).mono ?_); rintro e w9 ⟨rfl, hb⟩; have hzz := hb.size; (try simp at hzz); have hn0 : ¬ w9.heap.size = w.heap.size := (by omega); have hm0 : ¬ w.heap.size = w9.heap.size := (by omega); have hn1 : ¬ w9.heap.size = w.heap.size + 1 := (by omega); have hm1 : ¬ w.heap.size + 1 = w9.heap.size := (by omega); have z0 : w.heap.size < w9.heap.size := (by omega); have z1 : w.heap.size + 1 < w9.heap.size := (by omega); obtain ⟨hc, hf⟩ := bcell hb); have zg5 := Nat.lt_of_lt_of_le zg5 hb.size
      all_goals (try go_wp2_with fail)
      refine hK.out _ _ ?_ (fun hH2 => ?_)
      ·(try dsimp only); first | (obtain ⟨k1, k2, k3, k4, k5, kB, kz⟩ := hHeld; exact ⟨cell_later hb k1, cell_later hb k2, (frozen_later hb k2 k3), cell_later hb k4, (frozen_later hb k4 k5), bstep kB hb, bsize kz hb⟩) | (obtain ⟨k1, k2, k3, k4, k5, kB, kz⟩ := hHeld; exact ⟨k1, k2, k3, k4, k5, kB, kz⟩)
      clear hK K hHeld; (have hHeld := hH2); clear hH2; (try simp only [pz])
      refine rd1 6 none rfl (fun K hK => ?_)
      go_simp
      all_goals (try go_wp2_with fail)
      refine hK.out _ _ ?_ (fun hH2 => ?_)
      ·(try dsimp only); first | (obtain ⟨k1, k2, k3, k4, k5, kB, kz⟩ := hHeld; (have kz2 := kz); (try simp at kz2); exact ⟨crk k1, crk k2, frk k3, crk k4, frk k5, (by with_reducible refine below_realloc kB ?_; omega), (by first | (simp; done) | (simp at kz ⊢; omega) | omega)⟩) | (obtain ⟨k1, k2, k3, k4, k5, kB, kz⟩ := hHeld; exact ⟨csk k1, csk k2, fsk k3, csk k4, fsk k5, bwz, (by first | (simp; done) | (simp at kz ⊢; omega) | omega)⟩)
      clear hK K hHeld; (have hHeld := hH2); clear hH2; (try simp only [pz])
      refine wpAnyH_done (by kernel_rfl) ?_ _; (try simp only [pz])
      obtain ⟨k1, k2, k3, k4, k5, kB, kz⟩ := hHeld
      go_wp2_with fail
      go_meet
      exact ⟨_, rfl, (by go_simp; done), (by go_simp; done), k1, k2, k3, k4, k5, kB, kz⟩
    ·go_simp
     all_goals (try go_wp2_with fail)
     refine hK.out _ _ ?_ (fun hH2 => ?_)
     ·(try dsimp only); obtain ⟨k1, k2, k3, k4, k5, kB, kz⟩ := hHeld; exact ⟨cell_alloc k1, cell_alloc k2, (frozen_alloc k2 k3), cell_alloc k4, (frozen_alloc k4 k5), bwz, (by first | (simp; done) | (simp at kz ⊢; omega) | omega)⟩
     clear hK K hHeld; (have hHeld := hH2); clear hH2; (try simp only [pz])
     have hx := hHeld; obtain ⟨k1, k2, k3, k4, k5, kB, kz⟩ := hx; (first | (have zg5 := alloc_lt kB) | (have zg5 := alloc_lt2 kB rfl)); clear k1 k2 k3 k4 k5 kB kz
     refine rd1 3 (some 18) rfl (fun K hK => ?_)
     go_simp; (go_at_call 87; (with_reducible refine (impl_legAt _ _ _ _ T X Y _ _ (RowAt.later bwz h) hn40 hn2).mono ?_); rintro e w9 ⟨rfl, hb⟩; have hzz := hb.size; (try simp at hzz); have hn0 : ¬ w9.heap.size = w.heap.size := (by omega); have hm0 : ¬ w.heap.size = w9.heap.size := (by omega); have hn1 : ¬ w9.heap.size = w.heap.size + 1 := (by omega); have hm1 : ¬ w.heap.size + 1 = w9.heap.size := (by omega); have z0 : w.heap.size < w9.heap.size := (by omega); have z1 : w.heap.size + 1 < w9.heap.size := (by omega); obtain ⟨hc, hf⟩ := bcell hb); have zg5 := Nat.lt_of_lt_of_le zg5 hb.size
     all_goals (try go_wp2_with fail)
     refine hK.out _ _ ?_ (fun hH2 => ?_)
     ·(try dsimp only); first | (obtain ⟨k1, k2, k3, k4, k5, kB, kz⟩ := hHeld; exact ⟨cell_later hb k1, cell_later hb k2, (frozen_later hb k2 k3), cell_later hb k4, (frozen_later hb k4 k5), bstep kB hb, bsize kz hb⟩) | (obtain ⟨k1, k2, k3, k4, k5, kB, kz⟩ := hHeld; exact ⟨k1, k2, k3, k4, k5, kB, kz⟩)
     clear hK K hHeld; (have hHeld := hH2); clear hH2; (try simp only [pz])
     refine rd1 4 (some 19) rfl (fun K hK => ?_)
     go_simp; (go_at_call 86; (with_reducible refine (impl_wayOf_at _ _ _ _ T X Y t _ (RowAt.later bwz h) g1 hll).mono ?_); rintro e w9 ⟨rfl, hb⟩; have hzz := hb.size; (try simp at hzz); have hn0 : ¬ w9.heap.size = w.heap.size := (by omega); have hm0 : ¬ w.heap.size = w9.heap.size := (by omega); have hn1 : ¬ w9.heap.size = w.heap.size + 1 := (by omega); have hm1 : ¬ w.heap.size + 1 = w9.heap.size := (by omega); have z0 : w.heap.size < w9.heap.size := (by omega); have z1 : w.heap.size + 1 < w9.heap.size := (by omega); obtain ⟨hc, hf⟩ := bcell hb); have zg5 := Nat.lt_of_lt_of_le zg5 hb.size
     all_goals (try go_wp2_with fail)
     refine hK.out _ _ ?_ (fun hH2 => ?_)
     ·(try dsimp only); first | (obtain ⟨k1, k2, k3, k4, k5, kB, kz⟩ := hHeld; exact ⟨cell_later hb k1, cell_later hb k2, (frozen_later hb k2 k3), cell_later hb k4, (frozen_later hb k4 k5), bstep kB hb, bsize kz hb⟩) | (obtain ⟨k1, k2, k3, k4, k5, kB, kz⟩ := hHeld; exact ⟨k1, k2, k3, k4, k5, kB, kz⟩)
     clear hK K hHeld; (have hHeld := hH2); clear hH2; (try simp only [pz])
     refine rd1 6 none rfl (fun K hK => ?_)
     go_simp
     all_goals (try go_wp2_with fail)
     refine hK.out _ _ ?_ (fun hH2 => ?_)
     ·(try dsimp only); first | (obtain ⟨k1, k2, k3, k4, k5, kB, kz⟩ := hHeld; (have kz2 := kz); (try simp at kz2); exact ⟨crk k1, crk k2, frk k3, crk k4, frk k5, (by with_reducible refine below_realloc kB ?_; omega), (by first | (simp; done) | (simp at kz ⊢; omega) | omega)⟩) | (obtain ⟨k1, k2, k3, k4, k5, kB, kz⟩ := hHeld; exact ⟨csk k1, csk k2, fsk k3, csk k4, fsk k5, bwz, (by first | (simp; done) | (simp at kz ⊢; omega) | omega)⟩)
     clear hK K hHeld; (have hHeld := hH2); clear hH2; (try simp only [pz])
     refine wpAnyH_done (by kernel_rfl) ?_ _; (try simp only [pz])
     obtain ⟨k1, k2, k3, k4, k5, kB, kz⟩ := hHeld
     go_wp2_with fail
     go_meet
     exact ⟨_, rfl, (by go_simp; done), (by go_simp; done), k1, k2, k3, k4, k5, kB, kz⟩
   case rest =>
    obtain ⟨g, rfl, q1, q2, k1, k2, k3, k4, k5, kB, kz⟩ := hcut
    clear hc hf hz z0 z1 nz0 nz1 nz2 nz3
    go_wp2
    all_goals
     simp [bodyPost, results, Tryz.results60, go_sem, *]
     exact ⟨by simp [sel, *], bwz⟩
end Go.Proofs.YthlnpcneicmblaaGreatDoor
/- Walks: the heading of the reference; the tack at a time. -/
namespace Go.Proofs.YthlnpcneicmblaaGreatDoor
open Go.RowKit

theorem head_ok {n : Nat} {T X Y : Nat → Int} {t : Int} (hv : isTr n T X Y = true) (hz : (wayX n T X t == 0 && wayX n T Y t == 0) = false) : isHd (wayX n T X t) (wayX n T Y t) = true := by
 obtain ⟨_, _, _, p0, p1⟩ := isTr_leg hv (legF_lt T t (isTr_t hv).1)
 obtain ⟨x1, x2, x3, x4⟩ := isPt_t p0
 obtain ⟨y1, y2, y3, y4⟩ := isPt_t p1
 unfold isHd
 rw [hz]
 unfold wayX inB
 rw [decide_eq_true (by omega), decide_eq_true (by omega)]
 rfl
theorem spec_l03Heading_at (b o n cap : Nat) (T X Y : Nat → Int) (t : Int) (w : World) (h : RowAt w (some ⟨b, o, none⟩) n 3 (v3 T X Y)) (hv : isTr n T X Y = true) (hl : legF T t (n - 2) + 1 < n) :
 Calls Tryz.prog 94 #[.agg #[.slice (some ⟨b, o, none⟩) n cap], .int .i64 (legF T t (n - 2) : Nat)] w fun e w' => e = .returned (.agg #[.int .i64 (wayX n T X t), .int .i64 (wayX n T Y t)]) ∧ Below w.heap.size w w' :=
 spec_l03Heading b o n cap _ T X Y w h hv hl
set_option maxHeartbeats 4000000 in
theorem spec_HeadingAt (so : Option Addr) (n cap : Nat) (T X Y : Nat → Int) (t : Int) (w : World) (h : RowAt w so n 3 (v3 T X Y)) (hn : n ≤ 1048576) :
 Calls Tryz.prog 67 #[.agg #[.slice so n cap], .int .i64 t] w fun e w' => e = .returned (.tuple #[.agg #[.int .i64 (sel (isTr n T X Y && inB t (T 0) (T (n - 1)) && !(wayX n T X t == 0 && wayX n T Y t == 0)) (wayX n T X t) 0), .int .i64 (sel (isTr n T X Y && inB t (T 0) (T (n - 1)) && !(wayX n T X t == 0 && wayX n T Y t == 0)) (wayX n T Y t) 0)], .int .i64 (sel (isTr n T X Y) (sel (inB t (T 0) (T (n - 1))) (sel (wayX n T X t == 0 && wayX n T Y t == 0) 5 0) 2) 1)]) ∧ Below w.heap.size w w' := by
 rcases b3 (isTr n T X Y) (inB t (T 0) (T (n - 1))) with g1 | ⟨g1, g2⟩ | ⟨g1, g2⟩
 ·have Hc := hide (show sel (isTr n T X Y) (sel (inB t (T 0) (T (n - 1))) 0 2) 1 = 1 by simp [sel, g1])
  have Hl := hide (show sel (isTr n T X Y && inB t (T 0) (T (n - 1))) ((legF T t (n - 2) : Nat) : Int) 0 = 0 by simp [sel, g1])
  go_enter Tryz.func67, Tryz.ntmps67
  go_wp2_with (go_at_call 93; (with_reducible refine (spec_LegAt _ _ _ T X Y _ _ (RowAt.later bwz h) hn).mono ?_); rintro e w9 ⟨rfl, hb⟩; rw [Hc.out, Hl.out]; obtain ⟨hc, hf⟩ := bcell hb; have hz := hb.size; (try simp at hz); have z0 : w.heap.size < w9.heap.size := (by omega); have z1 : w.heap.size + 1 < w9.heap.size := (by omega))
  simp [bodyPost, results, Tryz.results67, go_sem, *]
  exact ⟨by simp [sel], bwz⟩
 ·have Hc := hide (show sel (isTr n T X Y) (sel (inB t (T 0) (T (n - 1))) 0 2) 1 = 2 by simp [sel, g1, g2])
  have Hl := hide (show sel (isTr n T X Y && inB t (T 0) (T (n - 1))) ((legF T t (n - 2) : Nat) : Int) 0 = 0 by simp [sel, g1, g2])
  go_enter Tryz.func67, Tryz.ntmps67
  go_wp2_with (go_at_call 93; (with_reducible refine (spec_LegAt _ _ _ T X Y _ _ (RowAt.later bwz h) hn).mono ?_); rintro e w9 ⟨rfl, hb⟩; rw [Hc.out, Hl.out]; obtain ⟨hc, hf⟩ := bcell hb; have hz := hb.size; (try simp at hz); have z0 : w.heap.size < w9.heap.size := (by omega); have z1 : w.heap.size + 1 < w9.heap.size := (by omega))
  simp [bodyPost, results, Tryz.results67, go_sem, *]
  exact ⟨by simp [sel], bwz⟩
 ·have Hc := hide (show sel (isTr n T X Y) (sel (inB t (T 0) (T (n - 1))) 0 2) 1 = 0 by simp [sel, g1, g2])
  have Hl := hide (show sel (isTr n T X Y && inB t (T 0) (T (n - 1))) ((legF T t (n - 2) : Nat) : Int) 0 = (legF T t (n - 2) : Nat) by simp [sel, g1, g2])
  obtain ⟨b, o, rfl⟩ := row_some h g1
  have hll := legF_lt T t (isTr_t g1).1
  rcases b2 (wayX n T X t == 0) with g3 | g3
  all_goals rcases b2 (wayX n T Y t == 0) with g4 | g4
  all_goals
   go_enter Tryz.func67, Tryz.ntmps67
   go_wp2_with (first | (go_at_call 93; (with_reducible refine (spec_LegAt _ _ _ T X Y _ _ (RowAt.later bwz h) hn).mono ?_); rintro e w9 ⟨rfl, hb⟩; rw [Hc.out, Hl.out]; obtain ⟨hc, hf⟩ := bcell hb; have hz := hb.size; (try simp at hz); have z0 : w.heap.size < w9.heap.size := (by omega); have z1 : w.heap.size + 1 < w9.heap.size := (by omega)) | (go_at_call 94; (with_reducible refine (spec_l03Heading_at _ _ _ _ T X Y t _ (RowAt.later bwz h) g1 hll).mono ?_); rintro e w9 ⟨rfl, hb⟩; obtain ⟨hc, hf⟩ := bcell hb; have hz := hb.size; have z0 : w.heap.size < w9.heap.size := (by first | omega | (simp at hz; omega)); have z1 : w.heap.size + 1 < w9.heap.size := (by first | omega | (simp at hz; omega))))
   all_goals
    simp [bodyPost, results, Tryz.results67, go_sem, *]
    exact ⟨by simp [sel, *], bwz⟩
end Go.Proofs.YthlnpcneicmblaaGreatDoor
