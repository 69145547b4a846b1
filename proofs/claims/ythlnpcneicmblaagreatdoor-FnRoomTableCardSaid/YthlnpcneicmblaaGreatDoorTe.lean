/- Walks: the position at a time. -/
import Derived.Test.YthlnpcneicmblaaGreatDoorTl
import Derived.Test.YthlnpcneicmblaaGreatDoorC
import Derived.Test.YthlnpcneicmblaaGreatDoorG
import Derived.Deep.DeepCutAuto
import Derived.Test.YthlnpcneicmblaaGreatDoorTd
namespace Go.Proofs.YthlnpcneicmblaaGreatDoor
open Go.RowKit

/-- The position at a time: a coordinate. -/
def posX (n : Nat) (T X : Nat → Int) (t : Int) : Int :=
 posI (X (legF T t (n - 2))) (X (legF T t (n - 2) + 1)) (t - T (legF T t (n - 2))) (T (legF T t (n - 2) + 1) - T (legF T t (n - 2)))
theorem dg_bd {d g : Int} (h1 : -2000000 ≤ d) (h2 : d ≤ 2000000) (g1 : 0 ≤ g) (g2 : g ≤ 1000000000) : -2000000000000000 ≤ d * g ∧ d * g ≤ 2000000000000000 := mul_bd' 2000000 1000000000 2000000000000000 h1 h2 (by omega) g2 (by decide)
set_option maxRecDepth 100000 in
set_option maxHeartbeats 4000000 in
theorem impl_positionAt (b o n cap : Nat) (T X Y : Nat → Int) (t : Int) (w : World) (h : RowAt w (some ⟨b, o, none⟩) n 3 (v3 T X Y)) (hv : isTr n T X Y = true) (ht : inB t (T 0) (T (n - 1)) = true) :
 Calls Tryz.prog 61 #[.agg #[.slice (some ⟨b, o, none⟩) n cap], .int .i64 t] w fun e w' => e = .returned (.agg #[.int .i64 (posX n T X t), .int .i64 (posX n T Y t)]) ∧ Below w.heap.size w w' := by
 obtain ⟨hn2, hn40, hall⟩ := isTr_t hv
 obtain ⟨l, hl⟩ : ∃ l, l = legF T t (n - 2) := ⟨_, rfl⟩
 have hl1 : l + 1 < n := by rw [hl]; exact legF_lt T t hn2
 have hbs := World.block_lt_of_cell? _ _ (h.on3 0 (by omega)).1
 simp only at hbs
 obtain ⟨t0, t1, t2, p0, p1⟩ := isTr_leg hv hl1
 obtain ⟨x1, x2, x3, x4⟩ := isPt_t p0
 obtain ⟨y1, y2, y3, y4⟩ := isPt_t p1
 obtain ⟨u1, u2⟩ := inB_t ht
 have u3 : T l ≤ t := by rw [hl]; exact legF_from u1 _
 have u4 : t ≤ 1000000000 := by have := (hall (n - 1) (by omega)).2.1; omega
 have Hr := hide (show posX n T X t = posI (X l) (X (l + 1)) (t - T l) (T (l + 1) - T l) by unfold posX; rw [← hl])
 have Hq := hide (show posX n T Y t = posI (Y l) (Y (l + 1)) (t - T l) (T (l + 1) - T l) by unfold posX; rw [← hl])
 have Hl := hide hl
 clear hl hall
 have hj1 : (0 : Int) ≤ (l : Int) := by omega
 have hj2 : (l : Int) < (n : Int) := by omega
 have hj3 : (l : Int) + 1 < (n : Int) := by omega
 have hj4 : (0 : Int) ≤ (l : Int) + 1 := by omega
 obtain ⟨m1, m2⟩ := dg_bd (d := X (l + 1) - X l) (g := t - T l) (by omega) (by omega) (by omega) (by omega)
 obtain ⟨m3, m4⟩ := dg_bd (d := Y (l + 1) - Y l) (g := t - T l) (by omega) (by omega) (by omega) (by omega)
 have a1 : 1 ≤ T (l + 1) - T l := by omega
 obtain ⟨q1, q2⟩ := ediv_bd (c := 2000000000000000) a1 (by omega) m1 m2
 obtain ⟨q3, q4⟩ := ediv_bd (c := 2000000000000000) a1 (by omega) m3 m4
 have f1 : -9000000000000000000 ≤ (X (l + 1) - X l) * (t - T l) := by omega
 have f2 : (X (l + 1) - X l) * (t - T l) ≤ 9000000000000000000 := by omega
 have f3 : -9000000000000000000 ≤ (Y (l + 1) - Y l) * (t - T l) := by omega
 have f4 : (Y (l + 1) - Y l) * (t - T l) ≤ 9000000000000000000 := by omega
 go_enter Tryz.func61, Tryz.ntmps61
 go_upto_region 2 with (go_at_call 87; (with_reducible refine (impl_legAt _ _ _ _ T X Y _ _ (RowAt.later bwz h) hn40 hn2).mono ?_); rintro e w9 ⟨rfl, hb⟩; rw [← Hl.out]; have hA := RowAt.later (w := w) (wx := w9) bwz h; obtain ⟨hc, hf⟩ := bcell hb; have hz := hb.size; (try simp at hz); have z0 : w.heap.size < w9.heap.size := (by omega); have z1 : w.heap.size + 1 < w9.heap.size := (by omega); have zb : b < w9.heap.size := (by omega))
 obtain ⟨wA, rfl⟩ : ∃ wA : World, wA = w9 := ⟨_, rfl⟩
 obtain ⟨c0, c1, c2⟩ := hA.on3 l (by omega)
 obtain ⟨d0, d1, d2⟩ := hA.on3 (l + 1) hl1
 go_cut [6, 7] (fun s6 s7 W => ∃ g h2 : Nat, s6 = .pointer (some ⟨g, 0, none⟩) ∧ s7 = .pointer (some ⟨h2, 0, none⟩) ∧ w.heap.size + 1 < g ∧ w.heap.size + 1 < h2 ∧ W.cell? ⟨w.heap.size + 1, 0, none⟩ = some (.int .i64 0) ∧ W.frozen? ⟨w.heap.size + 1, 0, none⟩ = false ∧ W.cell? ⟨w.heap.size + 1, 1, none⟩ = some (.int .i64 0) ∧ W.frozen? ⟨w.heap.size + 1, 1, none⟩ = false ∧ W.cell? ⟨g, 0, none⟩ = some (.int .i64 (T l)) ∧ W.cell? ⟨g, 1, none⟩ = some (.int .i64 (X l)) ∧ W.cell? ⟨g, 2, none⟩ = some (.int .i64 (Y l)) ∧ W.cell? ⟨h2, 0, none⟩ = some (.int .i64 (T (l + 1))) ∧ W.cell? ⟨h2, 1, none⟩ = some (.int .i64 (X (l + 1))) ∧ W.cell? ⟨h2, 2, none⟩ = some (.int .i64 (Y (l + 1))) ∧ Below w.heap.size w W ∧ w.heap.size + 2 ≤ W.heap.size)
 case first =>
  have nz0 : ¬ wA.heap.size = w.heap.size := by omega
  have nz1 : ¬ wA.heap.size = w.heap.size + 1 := by omega
  have nz2 : ¬ w.heap.size = wA.heap.size := by omega
  have nz3 : ¬ w.heap.size + 1 = wA.heap.size := by omega
  have nbb0 : ¬ b = wA.heap.size := (by omega); have ncb0 : ¬ wA.heap.size = b := (by omega); have ndb0 : b < wA.heap.size := (by omega); have nbb1 : ¬ b = wA.heap.size + 1 := (by omega); have ncb1 : ¬ wA.heap.size + 1 = b := (by omega); have ndb1 : b < wA.heap.size + 1 := (by omega); have nbb2 : ¬ b = wA.heap.size + 1 + 1 := (by omega); have ncb2 : ¬ wA.heap.size + 1 + 1 = b := (by omega); have ndb2 : b < wA.heap.size + 1 + 1 := (by omega); have nbb3 : ¬ b = wA.heap.size + 1 + 1 + 1 := (by omega); have ncb3 : ¬ wA.heap.size + 1 + 1 + 1 = b := (by omega); have ndb3 : b < wA.heap.size + 1 + 1 + 1 := (by omega)
  have e0 : w.heap.size < wA.heap.size + 1 := by omega
  have e1 : w.heap.size + 1 < wA.heap.size + 1 := by omega
  have we : IntKind.i64.wrap ((l : Int) + 1) = (l : Int) + 1 := IntWalk.i64_in _ (by omega)
  refine wp_region_held_drew (S := (fun W => W.cell? ⟨w.heap.size, 0, none⟩ = some ((.slice (some ⟨b, o, none⟩) n cap)) ∧ W.cell? ⟨w.heap.size + 1, 0, none⟩ = some (.int .i64 0) ∧ W.frozen? ⟨w.heap.size + 1, 0, none⟩ = false ∧ W.cell? ⟨w.heap.size + 1, 1, none⟩ = some (.int .i64 0) ∧ W.frozen? ⟨w.heap.size + 1, 1, none⟩ = false ∧ W.cell? ⟨b, o + l * 3, none⟩ = some (.int .i64 (T l)) ∧ W.cell? ⟨b, o + l * 3 + 1, none⟩ = some (.int .i64 (X l)) ∧ W.cell? ⟨b, o + l * 3 + 2, none⟩ = some (.int .i64 (Y l)) ∧ W.cell? ⟨b, o + (l + 1) * 3, none⟩ = some (.int .i64 (T (l + 1))) ∧ W.cell? ⟨b, o + (l + 1) * 3 + 1, none⟩ = some (.int .i64 (X (l + 1))) ∧ W.cell? ⟨b, o + (l + 1) * 3 + 2, none⟩ = some (.int .i64 (Y (l + 1))) ∧ Below w.heap.size w W ∧ w.heap.size + 2 ≤ W.heap.size)) (by kernel_rfl) ?_ (fun hHeld => ?_)
  ·exact ⟨(by go_simp; done), (by go_simp; done), (by go_simp; done), (by go_simp; done), (by go_simp; done), (by go_simp; done), (by go_simp; done), (by go_simp; done), (by go_simp; done), (by go_simp; done), (by go_simp; done), bwz, (by first | (simp; done) | (simp; omega) | omega)⟩
  refine tkD 0 (some 13) rfl ?_; simp only [pz]
  refine tkD 1 (some 14) rfl ?_; simp only [pz]
  refine tkD 2 (some 15) rfl ?_; simp only [pz]
  refine tkD 3 (some 16) rfl ?_; simp only [pz]
  refine tkD 4 (some 17) rfl ?_; simp only [pz]
  refine tkD 5 (some 18) rfl ?_; simp only [pz]
  refine tkD 6 (some 19) rfl ?_; simp only [pz]
  refine tkD 7 (some 20) rfl ?_; simp only [pz]
  refine tkD 8 (some 21) rfl ?_; simp only [pz]
  refine tkD 9 (some 22) rfl ?_; simp only [pz]
  refine tkD 10 (some 23) rfl ?_; simp only [pz]
  refine wpAnyH_ready (rs := [11, 12]) (by kernel_rfl) (by simp) ?_; refine (AllReadyH.cons (o := ⟨some 6, _, _, _, _, _⟩) rfl (fun K hK => ?_) (AllReadyH.cons (o := ⟨some 7, _, _, _, _, _⟩) rfl (fun K hK => ?_) AllReadyH.nil))
  ·go_simp
   all_goals (try go_wp2_with fail)
   refine hK.out _ _ ?_ (fun hH2 => ?_)
   ·(try dsimp only); obtain ⟨k1, k2, k3, k4, k5, k6, k7, k8, k9, k10, k11, kB, kz⟩ := hHeld; exact ⟨cell_alloc k1, cell_alloc k2, (frozen_alloc k2 k3), cell_alloc k4, (frozen_alloc k4 k5), cell_alloc k6, cell_alloc k7, cell_alloc k8, cell_alloc k9, cell_alloc k10, cell_alloc k11, bwz, (by first | (simp; done) | (simp at kz ⊢; omega) | omega)⟩
   clear hK K hHeld; (have hHeld := hH2); clear hH2; (try simp only [pz])
   have hx := hHeld; obtain ⟨k1, k2, k3, k4, k5, k6, k7, k8, k9, k10, k11, kB, kz⟩ := hx; (first | (have zg11 := alloc_lt kB) | (have zg11 := alloc_lt2 kB rfl)); clear k1 k2 k3 k4 k5 k6 k7 k8 k9 k10 k11 kB kz
   refine rd1 12 (some 7) rfl (fun K hK => ?_)
   have nq11 := Nat.ne_of_lt zg11; have nr11 := Nat.ne_of_gt zg11; go_simp
   all_goals (try go_wp2_with fail)
   refine hK.out _ _ ?_ (fun hH2 => ?_)
   ·(try dsimp only); obtain ⟨k1, k2, k3, k4, k5, k6, k7, k8, k9, k10, k11, kB, kz⟩ := hHeld; exact ⟨cell_alloc k1, cell_alloc k2, (frozen_alloc k2 k3), cell_alloc k4, (frozen_alloc k4 k5), cell_alloc k6, cell_alloc k7, cell_alloc k8, cell_alloc k9, cell_alloc k10, cell_alloc k11, bwz, (by first | (simp; done) | (simp at kz ⊢; omega) | omega)⟩
   clear hK K hHeld; (have hHeld := hH2); clear hH2; (try simp only [pz])
   have hx := hHeld; obtain ⟨k1, k2, k3, k4, k5, k6, k7, k8, k9, k10, k11, kB, kz⟩ := hx; (first | (have zg12 := alloc_lt kB) | (have zg12 := alloc_lt2 kB rfl)); (first | (have zg11 := Nat.lt_trans zg11 zg12) | (have zg11 := Nat.lt_trans (show w.heap.size + 1 + 1 < w.heap.size + 1 + 1 + 1 by omega) zg12)); clear k1 k2 k3 k4 k5 k6 k7 k8 k9 k10 k11 kB kz
   refine rd1 13 none rfl (fun K hK => ?_)
   go_simp
   all_goals (try go_wp2_with fail)
   refine hK.out _ _ ?_ (fun hH2 => ?_)
   ·(try dsimp only); first | (obtain ⟨k1, k2, k3, k4, k5, k6, k7, k8, k9, k10, k11, kB, kz⟩ := hHeld; (have kz2 := kz); (try simp at kz2); exact ⟨crk k1, crk k2, frk k3, crk k4, frk k5, crk k6, crk k7, crk k8, crk k9, crk k10, crk k11, (by with_reducible refine below_realloc kB ?_; omega), (by first | (simp; done) | (simp at kz ⊢; omega) | omega)⟩) | (obtain ⟨k1, k2, k3, k4, k5, k6, k7, k8, k9, k10, k11, kB, kz⟩ := hHeld; exact ⟨csk k1, csk k2, fsk k3, csk k4, fsk k5, csk k6, csk k7, csk k8, csk k9, csk k10, csk k11, bwz, (by first | (simp; done) | (simp at kz ⊢; omega) | omega)⟩)
   clear hK K hHeld; (have hHeld := hH2); clear hH2; (try simp only [pz])
   refine rd1 14 none rfl (fun K hK => ?_)
   go_simp
   all_goals (try go_wp2_with fail)
   refine hK.out _ _ ?_ (fun hH2 => ?_)
   ·(try dsimp only); first | (obtain ⟨k1, k2, k3, k4, k5, k6, k7, k8, k9, k10, k11, kB, kz⟩ := hHeld; (have kz2 := kz); (try simp at kz2); exact ⟨crk k1, crk k2, frk k3, crk k4, frk k5, crk k6, crk k7, crk k8, crk k9, crk k10, crk k11, (by with_reducible refine below_realloc kB ?_; omega), (by first | (simp; done) | (simp at kz ⊢; omega) | omega)⟩) | (obtain ⟨k1, k2, k3, k4, k5, k6, k7, k8, k9, k10, k11, kB, kz⟩ := hHeld; exact ⟨csk k1, csk k2, fsk k3, csk k4, fsk k5, csk k6, csk k7, csk k8, csk k9, csk k10, csk k11, bwz, (by first | (simp; done) | (simp at kz ⊢; omega) | omega)⟩)
   clear hK K hHeld; (have hHeld := hH2); clear hH2; (try simp only [pz])
   refine wpAnyH_done (by kernel_rfl) ?_ _; (try simp only [pz])
   obtain ⟨k1, k2, k3, k4, k5, k6, k7, k8, k9, k10, k11, kB, kz⟩ := hHeld
   go_wp2_with fail
   go_meet
   exact ⟨_, _, rfl, rfl, (by omega), (by omega), k2, k3, k4, k5, (by go_simp; done), (by go_simp; done), (by go_simp; done), (by go_simp; done), (by go_simp; done), (by go_simp; done), kB, kz⟩
  ·go_simp
   all_goals (try go_wp2_with fail)
   refine hK.out _ _ ?_ (fun hH2 => ?_)
   ·(try dsimp only); obtain ⟨k1, k2, k3, k4, k5, k6, k7, k8, k9, k10, k11, kB, kz⟩ := hHeld; exact ⟨cell_alloc k1, cell_alloc k2, (frozen_alloc k2 k3), cell_alloc k4, (frozen_alloc k4 k5), cell_alloc k6, cell_alloc k7, cell_alloc k8, cell_alloc k9, cell_alloc k10, cell_alloc k11, bwz, (by first | (simp; done) | (simp at kz ⊢; omega) | omega)⟩
   clear hK K hHeld; (have hHeld := hH2); clear hH2; (try simp only [pz])
   have hx := hHeld; obtain ⟨k1, k2, k3, k4, k5, k6, k7, k8, k9, k10, k11, kB, kz⟩ := hx; (first | (have zg12 := alloc_lt kB) | (have zg12 := alloc_lt2 kB rfl)); clear k1 k2 k3 k4 k5 k6 k7 k8 k9 k10 k11 kB kz
   refine rd1 11 (some 6) rfl (fun K hK => ?_)
   have nq12 := Nat.ne_of_lt zg12; have nr12 := Nat.ne_of_gt zg12; go_simp
   all_goals (try go_wp2_with fail)
   refine hK.out _ _ ?_ (fun hH2 => ?_)
   ·(try dsimp only); obtain ⟨k1, k2, k3, k4, k5, k6, k7, k8, k9, k10, k11, kB, kz⟩ := hHeld; exact ⟨cell_alloc k1, cell_alloc k2, (frozen_alloc k2 k3), cell_alloc k4, (frozen_alloc k4 k5), cell_alloc k6, cell_alloc k7, cell_alloc k8, cell_alloc k9, cell_alloc k10, cell_alloc k11, bwz, (by first | (simp; done) | (simp at kz ⊢; omega) | omega)⟩
   clear hK K hHeld; (have hHeld := hH2); clear hH2; (try simp only [pz])
   have hx := hHeld; obtain ⟨k1, k2, k3, k4, k5, k6, k7, k8, k9, k10, k11, kB, kz⟩ := hx; (first | (have zg11 := alloc_lt kB) | (have zg11 := alloc_lt2 kB rfl)); (first | (have zg12 := Nat.lt_trans zg12 zg11) | (have zg12 := Nat.lt_trans (show w.heap.size + 1 + 1 < w.heap.size + 1 + 1 + 1 by omega) zg11)); clear k1 k2 k3 k4 k5 k6 k7 k8 k9 k10 k11 kB kz
   refine rd1 13 none rfl (fun K hK => ?_)
   go_simp
   all_goals (try go_wp2_with fail)
   refine hK.out _ _ ?_ (fun hH2 => ?_)
   ·(try dsimp only); first | (obtain ⟨k1, k2, k3, k4, k5, k6, k7, k8, k9, k10, k11, kB, kz⟩ := hHeld; (have kz2 := kz); (try simp at kz2); exact ⟨crk k1, crk k2, frk k3, crk k4, frk k5, crk k6, crk k7, crk k8, crk k9, crk k10, crk k11, (by with_reducible refine below_realloc kB ?_; omega), (by first | (simp; done) | (simp at kz ⊢; omega) | omega)⟩) | (obtain ⟨k1, k2, k3, k4, k5, k6, k7, k8, k9, k10, k11, kB, kz⟩ := hHeld; exact ⟨csk k1, csk k2, fsk k3, csk k4, fsk k5, csk k6, csk k7, csk k8, csk k9, csk k10, csk k11, bwz, (by first | (simp; done) | (simp at kz ⊢; omega) | omega)⟩)
   clear hK K hHeld; (have hHeld := hH2); clear hH2; (try simp only [pz])
   refine rd1 14 none rfl (fun K hK => ?_)
   go_simp
   all_goals (try go_wp2_with fail)
   refine hK.out _ _ ?_ (fun hH2 => ?_)
   ·(try dsimp only); first | (obtain ⟨k1, k2, k3, k4, k5, k6, k7, k8, k9, k10, k11, kB, kz⟩ := hHeld; (have kz2 := kz); (try simp at kz2); exact ⟨crk k1, crk k2, frk k3, crk k4, frk k5, crk k6, crk k7, crk k8, crk k9, crk k10, crk k11, (by with_reducible refine below_realloc kB ?_; omega), (by first | (simp; done) | (simp at kz ⊢; omega) | omega)⟩) | (obtain ⟨k1, k2, k3, k4, k5, k6, k7, k8, k9, k10, k11, kB, kz⟩ := hHeld; exact ⟨csk k1, csk k2, fsk k3, csk k4, fsk k5, csk k6, csk k7, csk k8, csk k9, csk k10, csk k11, bwz, (by first | (simp; done) | (simp at kz ⊢; omega) | omega)⟩)
   clear hK K hHeld; (have hHeld := hH2); clear hH2; (try simp only [pz])
   refine wpAnyH_done (by kernel_rfl) ?_ _; (try simp only [pz])
   obtain ⟨k1, k2, k3, k4, k5, k6, k7, k8, k9, k10, k11, kB, kz⟩ := hHeld
   go_wp2_with fail
   go_meet
   exact ⟨_, _, rfl, rfl, (by omega), (by omega), k2, k3, k4, k5, (by go_simp; done), (by go_simp; done), (by go_simp; done), (by go_simp; done), (by go_simp; done), (by go_simp; done), kB, kz⟩
 case rest =>
  obtain ⟨g, h2, rfl, rfl, kg, kh, k1, k2, k3, k4, k5, k6, k7, k8, k9, k10, kB, kz⟩ := hcut
  have v1 : IntKind.i64.wrap (t - T l) = t - T l := IntWalk.i64_in _ (by omega)
  have v2 : IntKind.i64.wrap (T (l + 1) - T l) = T (l + 1) - T l := IntWalk.i64_in _ (by omega)
  have v3 : IntKind.i64.wrap (X (l + 1) - X l) = X (l + 1) - X l := IntWalk.i64_in _ (by omega)
  have v4 : IntKind.i64.wrap (Y (l + 1) - Y l) = Y (l + 1) - Y l := IntWalk.i64_in _ (by omega)
  have v5 : IntKind.i64.wrap ((X (l + 1) - X l) * (t - T l)) = (X (l + 1) - X l) * (t - T l) := IntWalk.i64_in _ (by omega)
  have v6 : IntKind.i64.wrap ((Y (l + 1) - Y l) * (t - T l)) = (Y (l + 1) - Y l) * (t - T l) := IntWalk.i64_in _ (by omega)
  have v7 : IntKind.i64.wrap (X l + (X (l + 1) - X l) * (t - T l) / (T (l + 1) - T l)) = X l + (X (l + 1) - X l) * (t - T l) / (T (l + 1) - T l) := IntWalk.i64_in _ (by clear v5 v6; omega)
  have v8 : IntKind.i64.wrap (Y l + (Y (l + 1) - Y l) * (t - T l) / (T (l + 1) - T l)) = Y l + (Y (l + 1) - Y l) * (t - T l) / (T (l + 1) - T l) := IntWalk.i64_in _ (by clear v5 v6 v7; omega)
  obtain ⟨wB, rfl⟩ : ∃ wB : World, wB = wc := ⟨_, rfl⟩
  go_upto_region 3 with fail
  refine wp_region_held_drew (S := (fun W => W.cell? ⟨w.heap.size + 1, 0, none⟩ = some (.int .i64 0) ∧ W.frozen? ⟨w.heap.size + 1, 0, none⟩ = false ∧ W.cell? ⟨w.heap.size + 1, 1, none⟩ = some (.int .i64 0) ∧ W.frozen? ⟨w.heap.size + 1, 1, none⟩ = false ∧ W.cell? ⟨g, 0, none⟩ = some (.int .i64 (T l)) ∧ W.cell? ⟨g, 1, none⟩ = some (.int .i64 (X l)) ∧ W.cell? ⟨g, 2, none⟩ = some (.int .i64 (Y l)) ∧ W.cell? ⟨h2, 0, none⟩ = some (.int .i64 (T (l + 1))) ∧ W.cell? ⟨h2, 1, none⟩ = some (.int .i64 (X (l + 1))) ∧ W.cell? ⟨h2, 2, none⟩ = some (.int .i64 (Y (l + 1))) ∧ Below w.heap.size w W ∧ w.heap.size + 2 ≤ W.heap.size)) (by kernel_rfl) ?_ (fun hHeld => ?_)
  ·exact ⟨(by go_simp; done), (by go_simp; done), (by go_simp; done), (by go_simp; done), (by go_simp; done), (by go_simp; done), (by go_simp; done), (by go_simp; done), (by go_simp; done), (by go_simp; done), bwz, (by first | (simp; done) | (simp; omega) | omega)⟩
  refine tkD 0 (some 24) rfl ?_; simp only [pz]
  refine tkD 1 (some 25) rfl ?_; simp only [pz]
  refine tkD 2 (some 26) rfl ?_; simp only [pz]
  refine tkD 3 (some 27) rfl ?_; simp only [pz]
  refine tkD 4 (some 28) rfl ?_; simp only [pz]
  refine tkD 5 (some 29) rfl ?_; simp only [pz]
  refine tkD 6 (some 30) rfl ?_; simp only [pz]
  refine tkD 7 (some 31) rfl ?_; simp only [pz]
  refine tkD 8 (some 32) rfl ?_; simp only [pz]
  refine tkD 9 (some 8) rfl ?_; simp only [pz]
  refine tkD 10 (some 9) rfl ?_; simp only [pz]
  refine wpAnyH_done (by kernel_rfl) ?_ _; (try simp only [pz])
  obtain ⟨k1, k2, k3, k4, k5, k6, k7, k8, k9, k10, kB, kz⟩ := hHeld
  go_upto_region 4 with fail
  refine wp_region_held_drew (S := (fun W => W.cell? ⟨g, 0, none⟩ = some (.int .i64 (T l)) ∧ W.cell? ⟨g, 1, none⟩ = some (.int .i64 (X l)) ∧ W.cell? ⟨g, 2, none⟩ = some (.int .i64 (Y l)) ∧ W.cell? ⟨h2, 0, none⟩ = some (.int .i64 (T (l + 1))) ∧ W.cell? ⟨h2, 1, none⟩ = some (.int .i64 (X (l + 1))) ∧ W.cell? ⟨h2, 2, none⟩ = some (.int .i64 (Y (l + 1))) ∧ Below w.heap.size w W ∧ w.heap.size + 2 ≤ W.heap.size)) (by kernel_rfl) ?_ (fun hHeld => ?_)
  ·exact ⟨(by go_simp; done), (by go_simp; done), (by go_simp; done), (by go_simp; done), (by go_simp; done), (by go_simp; done), bwz, (by first | (simp; done) | (simp; omega) | omega)⟩
  refine tkD 0 (some 33) rfl ?_; simp only [pz]
  refine tkD 1 (some 34) rfl ?_; simp only [pz]
  refine tkD 2 (some 35) rfl ?_; simp only [pz]
  refine tkD 3 (some 36) rfl ?_; simp only [pz]
  refine tkD 4 (some 37) rfl ?_; simp only [pz]
  refine tkD 5 (some 38) rfl ?_; simp only [pz]
  refine tkD 6 (some 39) rfl ?_; simp only [pz]
  refine tkD 7 (some 40) rfl ?_; simp only [pz]
  refine tkD 8 (some 41) rfl ?_; simp only [pz]
  refine tkD 9 (some 42) rfl ?_; simp only [pz]
  refine tkD 12 (some 45) rfl ?_; simp only [pz]
  refine tkD 13 (some 46) rfl ?_; simp only [pz]
  refine tkD 14 (some 47) rfl ?_; simp only [pz]
  refine tkD 15 (some 48) rfl ?_; simp only [pz]
  refine tkD 16 (some 49) rfl ?_; simp only [pz]
  refine tkD 17 (some 50) rfl ?_; simp only [pz]
  refine tkD 18 (some 51) rfl ?_; simp only [pz]
  refine tkD 19 (some 52) rfl ?_; simp only [pz]
  refine tkD 20 (some 53) rfl ?_; simp only [pz]
  refine tkD 21 (some 54) rfl ?_; simp only [pz]
  refine rd1 10 (some 43) rfl (fun K hK => ?_)
  go_simp; (first | (go_at_call 88; (with_reducible refine (impl_floorDiv _ _ f1 f2 a1 _).mono ?_); rintro e w9 ⟨rfl, rfl⟩) | (go_at_call 88; (with_reducible refine (impl_floorDiv _ _ f3 f4 a1 _).mono ?_); rintro e w9 ⟨rfl, rfl⟩))
  all_goals (try go_wp2_with fail)
  refine hK.out _ _ ?_ (fun hH2 => ?_)
  ·(try dsimp only); first | (obtain ⟨k1, k2, k3, k4, k5, k6, kB, kz⟩ := hHeld; exact ⟨cell_later hb k1, cell_later hb k2, cell_later hb k3, cell_later hb k4, cell_later hb k5, cell_later hb k6, bstep kB hb, bsize kz hb⟩) | (obtain ⟨k1, k2, k3, k4, k5, k6, kB, kz⟩ := hHeld; exact ⟨k1, k2, k3, k4, k5, k6, kB, kz⟩)
  clear hK K hHeld; (have hHeld := hH2); clear hH2; (try simp only [pz])
  refine tkD 11 (some 44) rfl ?_; simp only [pz]
  refine rd1 22 (some 55) rfl (fun K hK => ?_)
  go_simp; (first | (go_at_call 88; (with_reducible refine (impl_floorDiv _ _ f1 f2 a1 _).mono ?_); rintro e w9 ⟨rfl, rfl⟩) | (go_at_call 88; (with_reducible refine (impl_floorDiv _ _ f3 f4 a1 _).mono ?_); rintro e w9 ⟨rfl, rfl⟩))
  all_goals (try go_wp2_with fail)
  refine hK.out _ _ ?_ (fun hH2 => ?_)
  ·(try dsimp only); first | (obtain ⟨k1, k2, k3, k4, k5, k6, kB, kz⟩ := hHeld; exact ⟨cell_later hb k1, cell_later hb k2, cell_later hb k3, cell_later hb k4, cell_later hb k5, cell_later hb k6, bstep kB hb, bsize kz hb⟩) | (obtain ⟨k1, k2, k3, k4, k5, k6, kB, kz⟩ := hHeld; exact ⟨k1, k2, k3, k4, k5, k6, kB, kz⟩)
  clear hK K hHeld; (have hHeld := hH2); clear hH2; (try simp only [pz])
  refine tkD 23 (some 56) rfl ?_; simp only [pz]
  refine tkD 24 (some 57) rfl ?_; simp only [pz]
  refine rd1 25 none rfl (fun K hK => ?_)
  go_simp
  all_goals (try go_wp2_with fail)
  refine hK.out _ _ ?_ (fun hH2 => ?_)
  ·(try dsimp only); first | (obtain ⟨k1, k2, k3, k4, k5, k6, kB, kz⟩ := hHeld; (have kz2 := kz); (try simp at kz2); exact ⟨crk k1, crk k2, crk k3, crk k4, crk k5, crk k6, (by with_reducible refine below_realloc kB ?_; omega), (by first | (simp; done) | (simp at kz ⊢; omega) | omega)⟩) | (obtain ⟨k1, k2, k3, k4, k5, k6, kB, kz⟩ := hHeld; exact ⟨csk k1, csk k2, csk k3, csk k4, csk k5, csk k6, bwz, (by first | (simp; done) | (simp at kz ⊢; omega) | omega)⟩)
  clear hK K hHeld; (have hHeld := hH2); clear hH2; (try simp only [pz])
  refine wpAnyH_done (by kernel_rfl) ?_ _; (try simp only [pz])
  obtain ⟨k3, k4, k5, k6, k7, k8, kB, kz⟩ := hHeld
  clear v1 v2 v3 v4 v5 v6 v7 v8
  go_wp2
  simp [bodyPost, results, Tryz.results61, go_sem, *]
  exact ⟨by rw [Hr.out]; rfl, by rw [Hq.out]; rfl⟩
set_option maxRecDepth 100000 in
set_option maxHeartbeats 4000000 in
theorem spec_l02At (a b g m : Int) (h1 : -1000000 ≤ a) (h2 : a ≤ 1000000) (h3 : -1000000 ≤ b) (h4 : b ≤ 1000000) (g1 : 0 ≤ g) (g2 : g ≤ 1000000000) (m1 : 1 ≤ m) (m2 : m ≤ 1000000000) (w : World) :
 Calls Tryz.prog 96 #[.int .i64 a, .int .i64 b, .agg #[.int .i64 g, .int .i64 m]] w fun e w' => e = .returned (.int .i64 (posI a b g m)) ∧ Below w.heap.size w w' := by
 obtain ⟨p1, p2⟩ := mul_bd' (a := (b - a) / 1000) (b := g) 2001 1000000000 2001000000000 (by omega) (by omega) (by omega) g2 (by decide)
 obtain ⟨q1, q2⟩ := ediv_bd (c := 2001000000000) m1 (by omega) p1 p2
 have r1 : 0 ≤ (b - a) / 1000 * g - (b - a) / 1000 * g / m * m := by have := Int.emod_add_mul_ediv ((b - a) / 1000 * g) m; have := Int.emod_nonneg ((b - a) / 1000 * g) (b := m) (by omega); rw [Int.mul_comm _ m]; omega
 have r2 : (b - a) / 1000 * g - (b - a) / 1000 * g / m * m ≤ 1000000000 := by have := Int.emod_add_mul_ediv ((b - a) / 1000 * g) m; have := Int.emod_lt_of_pos ((b - a) / 1000 * g) (b := m) (by omega); rw [Int.mul_comm _ m]; omega
 obtain ⟨s1, s2⟩ := mul_bd' (a := b - a - 1000 * ((b - a) / 1000)) (b := g) 1000 1000000000 1000000000000 (by omega) (by omega) (by omega) g2 (by decide)
 obtain ⟨e1, e2⟩ := ediv_bd (a := 1000 * ((b - a) / 1000 * g - (b - a) / 1000 * g / m * m) + (b - a - 1000 * ((b - a) / 1000)) * g) (c := 3000000000000) m1 (by omega) (by omega) (by omega)
 have Hr := hide (posI_split a b g m (by omega))
 have f1 : -9000000000000000000 ≤ b - a := by omega
 have f2 : b - a ≤ 9000000000000000000 := by omega
 have f3 : -9000000000000000000 ≤ (b - a) / 1000 * g := by omega
 have f4 : (b - a) / 1000 * g ≤ 9000000000000000000 := by omega
 have f5 : -9000000000000000000 ≤ 1000 * ((b - a) / 1000 * g - (b - a) / 1000 * g / m * m) + (b - a - 1000 * ((b - a) / 1000)) * g := by omega
 have f6 : 1000 * ((b - a) / 1000 * g - (b - a) / 1000 * g / m * m) + (b - a - 1000 * ((b - a) / 1000)) * g ≤ 9000000000000000000 := by omega
 go_enter Tryz.func96, Tryz.ntmps96
 go_wp2_with (first | (go_at_call 36; (with_reducible refine (spec_l01Floor _ _ f1 f2 (by decide) _).mono ?_); rintro e w9 ⟨rfl, rfl⟩) | (go_at_call 36; (with_reducible refine (spec_l01Floor _ _ f3 f4 m1 _).mono ?_); rintro e w9 ⟨rfl, rfl⟩) | (go_at_call 36; (with_reducible refine (spec_l01Floor _ _ f5 f6 m1 _).mono ?_); rintro e w9 ⟨rfl, rfl⟩))
 go_ret
 exact ⟨ret_i Hr.out.symm, bwz⟩
end Go.Proofs.YthlnpcneicmblaaGreatDoor
/- Walks: the position of the reference; the hull at a time. -/
namespace Go.Proofs.YthlnpcneicmblaaGreatDoor
open Go.RowKit

set_option maxRecDepth 100000 in
set_option maxHeartbeats 4000000 in
theorem spec_l03At (b o n cap : Nat) (T X Y : Nat → Int) (t : Int) (w : World) (h : RowAt w (some ⟨b, o, none⟩) n 3 (v3 T X Y)) (hv : isTr n T X Y = true) (ht : inB t (T 0) (T (n - 1)) = true) :
 Calls Tryz.prog 68 #[.agg #[.slice (some ⟨b, o, none⟩) n cap], .int .i64 t] w fun e w' => e = .returned (.agg #[.int .i64 (posX n T X t), .int .i64 (posX n T Y t)]) ∧ Below w.heap.size w w' := by
 obtain ⟨hn2, hn40, hall⟩ := isTr_t hv
 obtain ⟨l, hl⟩ : ∃ l, l = legF T t (n - 2) := ⟨_, rfl⟩
 have hl1 : l + 1 < n := by rw [hl]; exact legF_lt T t hn2
 have hbs := World.block_lt_of_cell? _ _ (h.on3 0 (by omega)).1
 simp only at hbs
 obtain ⟨t0, t1, t2, p0, p1⟩ := isTr_leg hv hl1
 obtain ⟨x1, x2, x3, x4⟩ := isPt_t p0
 obtain ⟨y1, y2, y3, y4⟩ := isPt_t p1
 obtain ⟨u1, u2⟩ := inB_t ht
 have u3 : T l ≤ t := by rw [hl]; exact legF_from u1 _
 have u4 : t ≤ 1000000000 := by have := (hall (n - 1) (by omega)).2.1; omega
 have Hr := hide (show posX n T X t = posI (X l) (X (l + 1)) (t - T l) (T (l + 1) - T l) by unfold posX; rw [← hl])
 have Hq := hide (show posX n T Y t = posI (Y l) (Y (l + 1)) (t - T l) (T (l + 1) - T l) by unfold posX; rw [← hl])
 have Hl := hide hl
 clear hl hall
 have hj1 : (0 : Int) ≤ (l : Int) := by omega
 have hj2 : (l : Int) < (n : Int) := by omega
 have hj3 : (l : Int) + 1 < (n : Int) := by omega
 have hj4 : (0 : Int) ≤ (l : Int) + 1 := by omega
 have a0 : 0 ≤ t - T l := by omega
 have a9 : t - T l ≤ 1000000000 := by omega
 have a1 : 1 ≤ T (l + 1) - T l := by omega
 have a2 : T (l + 1) - T l ≤ 1000000000 := by omega
 go_enter Tryz.func68, Tryz.ntmps68
 go_upto_region 2 with (go_at_call 95; (with_reducible refine (spec_l03Leg _ _ _ _ T X Y _ _ (RowAt.later bwz h) hn40 hn2).mono ?_); rintro e w9 ⟨rfl, hb⟩; rw [← Hl.out]; have hA := RowAt.later (w := w) (wx := w9) bwz h; obtain ⟨hc, hf⟩ := bcell hb; have hz := hb.size; (try simp at hz); have z0 : w.heap.size < w9.heap.size := (by omega); have z1 : w.heap.size + 1 < w9.heap.size := (by omega); have zb : b < w9.heap.size := (by omega))
 obtain ⟨wA, rfl⟩ : ∃ wA : World, wA = w9 := ⟨_, rfl⟩
 obtain ⟨c0, c1, c2⟩ := hA.on3 l (by omega)
 obtain ⟨d0, d1, d2⟩ := hA.on3 (l + 1) hl1
 go_cut [6, 7] (fun s6 s7 W => ∃ g h2 : Nat, s6 = .pointer (some ⟨g, 0, none⟩) ∧ s7 = .pointer (some ⟨h2, 0, none⟩) ∧ w.heap.size + 1 < g ∧ w.heap.size + 1 < h2 ∧ W.cell? ⟨w.heap.size + 1, 0, none⟩ = some (.int .i64 0) ∧ W.frozen? ⟨w.heap.size + 1, 0, none⟩ = false ∧ W.cell? ⟨w.heap.size + 1, 1, none⟩ = some (.int .i64 0) ∧ W.frozen? ⟨w.heap.size + 1, 1, none⟩ = false ∧ W.cell? ⟨g, 0, none⟩ = some (.int .i64 (T l)) ∧ W.cell? ⟨g, 1, none⟩ = some (.int .i64 (X l)) ∧ W.cell? ⟨g, 2, none⟩ = some (.int .i64 (Y l)) ∧ W.cell? ⟨h2, 0, none⟩ = some (.int .i64 (T (l + 1))) ∧ W.cell? ⟨h2, 1, none⟩ = some (.int .i64 (X (l + 1))) ∧ W.cell? ⟨h2, 2, none⟩ = some (.int .i64 (Y (l + 1))) ∧ Below w.heap.size w W ∧ w.heap.size + 2 ≤ W.heap.size)
 case first =>
  have nz0 : ¬ wA.heap.size = w.heap.size := by omega
  have nz1 : ¬ wA.heap.size = w.heap.size + 1 := by omega
  have nz2 : ¬ w.heap.size = wA.heap.size := by omega
  have nz3 : ¬ w.heap.size + 1 = wA.heap.size := by omega
  have nbb0 : ¬ b = wA.heap.size := (by omega); have ncb0 : ¬ wA.heap.size = b := (by omega); have ndb0 : b < wA.heap.size := (by omega); have nbb1 : ¬ b = wA.heap.size + 1 := (by omega); have ncb1 : ¬ wA.heap.size + 1 = b := (by omega); have ndb1 : b < wA.heap.size + 1 := (by omega); have nbb2 : ¬ b = wA.heap.size + 1 + 1 := (by omega); have ncb2 : ¬ wA.heap.size + 1 + 1 = b := (by omega); have ndb2 : b < wA.heap.size + 1 + 1 := (by omega); have nbb3 : ¬ b = wA.heap.size + 1 + 1 + 1 := (by omega); have ncb3 : ¬ wA.heap.size + 1 + 1 + 1 = b := (by omega); have ndb3 : b < wA.heap.size + 1 + 1 + 1 := (by omega)
  have e0 : w.heap.size < wA.heap.size + 1 := by omega
  have e1 : w.heap.size + 1 < wA.heap.size + 1 := by omega
  have we : IntKind.i64.wrap ((l : Int) + 1) = (l : Int) + 1 := IntWalk.i64_in _ (by omega)
  refine wp_region_held_drew (S := (fun W => W.cell? ⟨w.heap.size, 0, none⟩ = some ((.slice (some ⟨b, o, none⟩) n cap)) ∧ W.cell? ⟨w.heap.size + 1, 0, none⟩ = some (.int .i64 0) ∧ W.frozen? ⟨w.heap.size + 1, 0, none⟩ = false ∧ W.cell? ⟨w.heap.size + 1, 1, none⟩ = some (.int .i64 0) ∧ W.frozen? ⟨w.heap.size + 1, 1, none⟩ = false ∧ W.cell? ⟨b, o + l * 3, none⟩ = some (.int .i64 (T l)) ∧ W.cell? ⟨b, o + l * 3 + 1, none⟩ = some (.int .i64 (X l)) ∧ W.cell? ⟨b, o + l * 3 + 2, none⟩ = some (.int .i64 (Y l)) ∧ W.cell? ⟨b, o + (l + 1) * 3, none⟩ = some (.int .i64 (T (l + 1))) ∧ W.cell? ⟨b, o + (l + 1) * 3 + 1, none⟩ = some (.int .i64 (X (l + 1))) ∧ W.cell? ⟨b, o + (l + 1) * 3 + 2, none⟩ = some (.int .i64 (Y (l + 1))) ∧ Below w.heap.size w W ∧ w.heap.size + 2 ≤ W.heap.size)) (by kernel_rfl) ?_ (fun hHeld => ?_)
  ·exact ⟨(by go_simp; done), (by go_simp; done), (by go_simp; done), (by go_simp; done), (by go_simp; done), (by go_simp; done), (by go_simp; done), (by go_simp; done), (by go_simp; done), (by go_simp; done), (by go_simp; done), bwz, (by first | (simp; done) | (simp; omega) | omega)⟩
  refine tkD 0 (some 12) rfl ?_; simp only [pz]
  refine tkD 1 (some 13) rfl ?_; simp only [pz]
  refine tkD 2 (some 14) rfl ?_; simp only [pz]
  refine tkD 3 (some 15) rfl ?_; simp only [pz]
  refine tkD 4 (some 16) rfl ?_; simp only [pz]
  refine tkD 5 (some 17) rfl ?_; simp only [pz]
  refine tkD 6 (some 18) rfl ?_; simp only [pz]
  refine tkD 7 (some 19) rfl ?_; simp only [pz]
  refine tkD 8 (some 20) rfl ?_; simp only [pz]
  refine tkD 9 (some 21) rfl ?_; simp only [pz]
  refine tkD 10 (some 22) rfl ?_; simp only [pz]
  refine wpAnyH_ready (rs := [11, 12]) (by kernel_rfl) (by simp) ?_; refine (AllReadyH.cons (o := ⟨some 6, _, _, _, _, _⟩) rfl (fun K hK => ?_) (AllReadyH.cons (o := ⟨some 7, _, _, _, _, _⟩) rfl (fun K hK => ?_) AllReadyH.nil))
  ·go_simp
   all_goals (try go_wp2_with fail)
   refine hK.out _ _ ?_ (fun hH2 => ?_)
   ·(try dsimp only); obtain ⟨k1, k2, k3, k4, k5, k6, k7, k8, k9, k10, k11, kB, kz⟩ := hHeld; exact ⟨cell_alloc k1, cell_alloc k2, (frozen_alloc k2 k3), cell_alloc k4, (frozen_alloc k4 k5), cell_alloc k6, cell_alloc k7, cell_alloc k8, cell_alloc k9, cell_alloc k10, cell_alloc k11, bwz, (by first | (simp; done) | (simp at kz ⊢; omega) | omega)⟩
   clear hK K hHeld; (have hHeld := hH2); clear hH2; (try simp only [pz])
   have hx := hHeld; obtain ⟨k1, k2, k3, k4, k5, k6, k7, k8, k9, k10, k11, kB, kz⟩ := hx; (first | (have zg11 := alloc_lt kB) | (have zg11 := alloc_lt2 kB rfl)); clear k1 k2 k3 k4 k5 k6 k7 k8 k9 k10 k11 kB kz
   refine rd1 12 (some 7) rfl (fun K hK => ?_)
   have nq11 := Nat.ne_of_lt zg11; have nr11 := Nat.ne_of_gt zg11; go_simp
   all_goals (try go_wp2_with fail)
   refine hK.out _ _ ?_ (fun hH2 => ?_)
   ·(try dsimp only); obtain ⟨k1, k2, k3, k4, k5, k6, k7, k8, k9, k10, k11, kB, kz⟩ := hHeld; exact ⟨cell_alloc k1, cell_alloc k2, (frozen_alloc k2 k3), cell_alloc k4, (frozen_alloc k4 k5), cell_alloc k6, cell_alloc k7, cell_alloc k8, cell_alloc k9, cell_alloc k10, cell_alloc k11, bwz, (by first | (simp; done) | (simp at kz ⊢; omega) | omega)⟩
   clear hK K hHeld; (have hHeld := hH2); clear hH2; (try simp only [pz])
   have hx := hHeld; obtain ⟨k1, k2, k3, k4, k5, k6, k7, k8, k9, k10, k11, kB, kz⟩ := hx; (first | (have zg12 := alloc_lt kB) | (have zg12 := alloc_lt2 kB rfl)); (first | (have zg11 := Nat.lt_trans zg11 zg12) | (have zg11 := Nat.lt_trans (show w.heap.size + 1 + 1 < w.heap.size + 1 + 1 + 1 by omega) zg12)); clear k1 k2 k3 k4 k5 k6 k7 k8 k9 k10 k11 kB kz
   refine rd1 13 none rfl (fun K hK => ?_)
   go_simp
   all_goals (try go_wp2_with fail)
   refine hK.out _ _ ?_ (fun hH2 => ?_)
   ·(try dsimp only); first | (obtain ⟨k1, k2, k3, k4, k5, k6, k7, k8, k9, k10, k11, kB, kz⟩ := hHeld; (have kz2 := kz); (try simp at kz2); exact ⟨crk k1, crk k2, frk k3, crk k4, frk k5, crk k6, crk k7, crk k8, crk k9, crk k10, crk k11, (by with_reducible refine below_realloc kB ?_; omega), (by first | (simp; done) | (simp at kz ⊢; omega) | omega)⟩) | (obtain ⟨k1, k2, k3, k4, k5, k6, k7, k8, k9, k10, k11, kB, kz⟩ := hHeld; exact ⟨csk k1, csk k2, fsk k3, csk k4, fsk k5, csk k6, csk k7, csk k8, csk k9, csk k10, csk k11, bwz, (by first | (simp; done) | (simp at kz ⊢; omega) | omega)⟩)
   clear hK K hHeld; (have hHeld := hH2); clear hH2; (try simp only [pz])
   refine rd1 14 none rfl (fun K hK => ?_)
   go_simp
   all_goals (try go_wp2_with fail)
   refine hK.out _ _ ?_ (fun hH2 => ?_)
   ·(try dsimp only); first | (obtain ⟨k1, k2, k3, k4, k5, k6, k7, k8, k9, k10, k11, kB, kz⟩ := hHeld; (have kz2 := kz); (try simp at kz2); exact ⟨crk k1, crk k2, frk k3, crk k4, frk k5, crk k6, crk k7, crk k8, crk k9, crk k10, crk k11, (by with_reducible refine below_realloc kB ?_; omega), (by first | (simp; done) | (simp at kz ⊢; omega) | omega)⟩) | (obtain ⟨k1, k2, k3, k4, k5, k6, k7, k8, k9, k10, k11, kB, kz⟩ := hHeld; exact ⟨csk k1, csk k2, fsk k3, csk k4, fsk k5, csk k6, csk k7, csk k8, csk k9, csk k10, csk k11, bwz, (by first | (simp; done) | (simp at kz ⊢; omega) | omega)⟩)
   clear hK K hHeld; (have hHeld := hH2); clear hH2; (try simp only [pz])
   refine wpAnyH_done (by kernel_rfl) ?_ _; (try simp only [pz])
   obtain ⟨k1, k2, k3, k4, k5, k6, k7, k8, k9, k10, k11, kB, kz⟩ := hHeld
   go_wp2_with fail
   go_meet
   exact ⟨_, _, rfl, rfl, (by omega), (by omega), k2, k3, k4, k5, (by go_simp; done), (by go_simp; done), (by go_simp; done), (by go_simp; done), (by go_simp; done), (by go_simp; done), kB, kz⟩
  ·go_simp
   all_goals (try go_wp2_with fail)
   refine hK.out _ _ ?_ (fun hH2 => ?_)
   ·(try dsimp only); obtain ⟨k1, k2, k3, k4, k5, k6, k7, k8, k9, k10, k11, kB, kz⟩ := hHeld; exact ⟨cell_alloc k1, cell_alloc k2, (frozen_alloc k2 k3), cell_alloc k4, (frozen_alloc k4 k5), cell_alloc k6, cell_alloc k7, cell_alloc k8, cell_alloc k9, cell_alloc k10, cell_alloc k11, bwz, (by first | (simp; done) | (simp at kz ⊢; omega) | omega)⟩
   clear hK K hHeld; (have hHeld := hH2); clear hH2; (try simp only [pz])
   have hx := hHeld; obtain ⟨k1, k2, k3, k4, k5, k6, k7, k8, k9, k10, k11, kB, kz⟩ := hx; (first | (have zg12 := alloc_lt kB) | (have zg12 := alloc_lt2 kB rfl)); clear k1 k2 k3 k4 k5 k6 k7 k8 k9 k10 k11 kB kz
   refine rd1 11 (some 6) rfl (fun K hK => ?_)
   have nq12 := Nat.ne_of_lt zg12; have nr12 := Nat.ne_of_gt zg12; go_simp
   all_goals (try go_wp2_with fail)
   refine hK.out _ _ ?_ (fun hH2 => ?_)
   ·(try dsimp only); obtain ⟨k1, k2, k3, k4, k5, k6, k7, k8, k9, k10, k11, kB, kz⟩ := hHeld; exact ⟨cell_alloc k1, cell_alloc k2, (frozen_alloc k2 k3), cell_alloc k4, (frozen_alloc k4 k5), cell_alloc k6, cell_alloc k7, cell_alloc k8, cell_alloc k9, cell_alloc k10, cell_alloc k11, bwz, (by first | (simp; done) | (simp at kz ⊢; omega) | omega)⟩
   clear hK K hHeld; (have hHeld := hH2); clear hH2; (try simp only [pz])
   have hx := hHeld; obtain ⟨k1, k2, k3, k4, k5, k6, k7, k8, k9, k10, k11, kB, kz⟩ := hx; (first | (have zg11 := alloc_lt kB) | (have zg11 := alloc_lt2 kB rfl)); (first | (have zg12 := Nat.lt_trans zg12 zg11) | (have zg12 := Nat.lt_trans (show w.heap.size + 1 + 1 < w.heap.size + 1 + 1 + 1 by omega) zg11)); clear k1 k2 k3 k4 k5 k6 k7 k8 k9 k10 k11 kB kz
   refine rd1 13 none rfl (fun K hK => ?_)
   go_simp
   all_goals (try go_wp2_with fail)
   refine hK.out _ _ ?_ (fun hH2 => ?_)
   ·(try dsimp only); first | (obtain ⟨k1, k2, k3, k4, k5, k6, k7, k8, k9, k10, k11, kB, kz⟩ := hHeld; (have kz2 := kz); (try simp at kz2); exact ⟨crk k1, crk k2, frk k3, crk k4, frk k5, crk k6, crk k7, crk k8, crk k9, crk k10, crk k11, (by with_reducible refine below_realloc kB ?_; omega), (by first | (simp; done) | (simp at kz ⊢; omega) | omega)⟩) | (obtain ⟨k1, k2, k3, k4, k5, k6, k7, k8, k9, k10, k11, kB, kz⟩ := hHeld; exact ⟨csk k1, csk k2, fsk k3, csk k4, fsk k5, csk k6, csk k7, csk k8, csk k9, csk k10, csk k11, bwz, (by first | (simp; done) | (simp at kz ⊢; omega) | omega)⟩)
   clear hK K hHeld; (have hHeld := hH2); clear hH2; (try simp only [pz])
   refine rd1 14 none rfl (fun K hK => ?_)
   go_simp
   all_goals (try go_wp2_with fail)
   refine hK.out _ _ ?_ (fun hH2 => ?_)
   ·(try dsimp only); first | (obtain ⟨k1, k2, k3, k4, k5, k6, k7, k8, k9, k10, k11, kB, kz⟩ := hHeld; (have kz2 := kz); (try simp at kz2); exact ⟨crk k1, crk k2, frk k3, crk k4, frk k5, crk k6, crk k7, crk k8, crk k9, crk k10, crk k11, (by with_reducible refine below_realloc kB ?_; omega), (by first | (simp; done) | (simp at kz ⊢; omega) | omega)⟩) | (obtain ⟨k1, k2, k3, k4, k5, k6, k7, k8, k9, k10, k11, kB, kz⟩ := hHeld; exact ⟨csk k1, csk k2, fsk k3, csk k4, fsk k5, csk k6, csk k7, csk k8, csk k9, csk k10, csk k11, bwz, (by first | (simp; done) | (simp at kz ⊢; omega) | omega)⟩)
   clear hK K hHeld; (have hHeld := hH2); clear hH2; (try simp only [pz])
   refine wpAnyH_done (by kernel_rfl) ?_ _; (try simp only [pz])
   obtain ⟨k1, k2, k3, k4, k5, k6, k7, k8, k9, k10, k11, kB, kz⟩ := hHeld
   go_wp2_with fail
   go_meet
   exact ⟨_, _, rfl, rfl, (by omega), (by omega), k2, k3, k4, k5, (by go_simp; done), (by go_simp; done), (by go_simp; done), (by go_simp; done), (by go_simp; done), (by go_simp; done), kB, kz⟩
 case rest =>
  obtain ⟨g, h2, rfl, rfl, kg, kh, k1, k2, k3, k4, k5, k6, k7, k8, k9, k10, kB, kz⟩ := hcut
  obtain ⟨wB, rfl⟩ : ∃ wB : World, wB = wc := ⟨_, rfl⟩
  have kg2 := World.block_lt_of_cell? _ _ k6
  have kh2 := World.block_lt_of_cell? _ _ k9
  simp only at kg2 kh2
  have z0 : w.heap.size < wB.heap.size := by omega
  have z1 : w.heap.size + 1 < wB.heap.size := by omega
  go_upto_region 4 with fail
  refine wp_region_held_drew (S := (fun W => W.cell? ⟨g, 0, none⟩ = some (.int .i64 (T l)) ∧ W.cell? ⟨g, 1, none⟩ = some (.int .i64 (X l)) ∧ W.cell? ⟨g, 2, none⟩ = some (.int .i64 (Y l)) ∧ W.cell? ⟨h2, 0, none⟩ = some (.int .i64 (T (l + 1))) ∧ W.cell? ⟨h2, 1, none⟩ = some (.int .i64 (X (l + 1))) ∧ W.cell? ⟨h2, 2, none⟩ = some (.int .i64 (Y (l + 1))) ∧ W.cell? ⟨wB.heap.size, 0, none⟩ = some (.int .i64 ((t - T l))) ∧ W.cell? ⟨wB.heap.size, 1, none⟩ = some (.int .i64 ((T (l + 1) - T l))) ∧ Below w.heap.size w W ∧ w.heap.size + 2 ≤ W.heap.size)) (by kernel_rfl) ?_ (fun hHeld => ?_)
  ·exact ⟨(by go_simp; done), (by go_simp; done), (by go_simp; done), (by go_simp; done), (by go_simp; done), (by go_simp; done), (by go_simp; done), (by go_simp; done), bwz, (by first | (simp; done) | (simp; omega) | omega)⟩
  refine tkD 0 (some 33) rfl ?_; simp only [pz]
  refine tkD 1 (some 34) rfl ?_; simp only [pz]
  refine tkD 2 (some 35) rfl ?_; simp only [pz]
  refine tkD 3 (some 36) rfl ?_; simp only [pz]
  refine tkD 4 (some 37) rfl ?_; simp only [pz]
  refine tkD 6 (some 39) rfl ?_; simp only [pz]
  refine tkD 7 (some 40) rfl ?_; simp only [pz]
  refine tkD 8 (some 41) rfl ?_; simp only [pz]
  refine tkD 9 (some 42) rfl ?_; simp only [pz]
  refine tkD 10 (some 43) rfl ?_; simp only [pz]
  refine rd1 5 (some 38) rfl (fun K hK => ?_)
  go_simp; (first | (go_at_call 96; (with_reducible refine (spec_l02At _ _ _ _ x1 x2 y1 y2 a0 a9 a1 a2 _).mono ?_); rintro e w9 ⟨rfl, hb⟩; have hzz := hb.size; (try simp at hzz); have hn0 : ¬ w9.heap.size = w.heap.size := (by omega); have hm0 : ¬ w.heap.size = w9.heap.size := (by omega); have hn1 : ¬ w9.heap.size = w.heap.size + 1 := (by omega); have hm1 : ¬ w.heap.size + 1 = w9.heap.size := (by omega); have z0 : w.heap.size < w9.heap.size := (by omega); have z1 : w.heap.size + 1 < w9.heap.size := (by omega); obtain ⟨hc, hf⟩ := bcell hb) | (go_at_call 96; (with_reducible refine (spec_l02At _ _ _ _ x3 x4 y3 y4 a0 a9 a1 a2 _).mono ?_); rintro e w9 ⟨rfl, hb⟩; have hzz := hb.size; (try simp at hzz); have hn0 : ¬ w9.heap.size = w.heap.size := (by omega); have hm0 : ¬ w.heap.size = w9.heap.size := (by omega); have hn1 : ¬ w9.heap.size = w.heap.size + 1 := (by omega); have hm1 : ¬ w.heap.size + 1 = w9.heap.size := (by omega); have z0 : w.heap.size < w9.heap.size := (by omega); have z1 : w.heap.size + 1 < w9.heap.size := (by omega); obtain ⟨hc, hf⟩ := bcell hb))
  all_goals (try go_wp2_with fail)
  refine hK.out _ _ ?_ (fun hH2 => ?_)
  ·(try dsimp only); first | (obtain ⟨k1, k2, k3, k4, k5, k6, k7, k8, kB, kz⟩ := hHeld; exact ⟨cell_later hb k1, cell_later hb k2, cell_later hb k3, cell_later hb k4, cell_later hb k5, cell_later hb k6, cell_later hb k7, cell_later hb k8, bstep kB hb, bsize kz hb⟩) | (obtain ⟨k1, k2, k3, k4, k5, k6, k7, k8, kB, kz⟩ := hHeld; exact ⟨k1, k2, k3, k4, k5, k6, k7, k8, kB, kz⟩)
  clear hK K hHeld; (have hHeld := hH2); clear hH2; (try simp only [pz])
  refine rd1 11 (some 44) rfl (fun K hK => ?_)
  go_simp; (first | (go_at_call 96; (with_reducible refine (spec_l02At _ _ _ _ x1 x2 y1 y2 a0 a9 a1 a2 _).mono ?_); rintro e w9 ⟨rfl, hb⟩; have hzz := hb.size; (try simp at hzz); have hn0 : ¬ w9.heap.size = w.heap.size := (by omega); have hm0 : ¬ w.heap.size = w9.heap.size := (by omega); have hn1 : ¬ w9.heap.size = w.heap.size + 1 := (by omega); have hm1 : ¬ w.heap.size + 1 = w9.heap.size := (by omega); have z0 : w.heap.size < w9.heap.size := (by omega); have z1 : w.heap.size + 1 < w9.heap.size := (by omega); obtain ⟨hc, hf⟩ := bcell hb) | (go_at_call 96; (with_reducible refine (spec_l02At _ _ _ _ x3 x4 y3 y4 a0 a9 a1 a2 _).mono ?_); rintro e w9 ⟨rfl, hb⟩; have hzz := hb.size; (try simp at hzz); have hn0 : ¬ w9.heap.size = w.heap.size := (by omega); have hm0 : ¬ w.heap.size = w9.heap.size := (by omega); have hn1 : ¬ w9.heap.size = w.heap.size + 1 := (by omega); have hm1 : ¬ w.heap.size + 1 = w9.heap.size := (by omega); have z0 : w.heap.size < w9.heap.size := (by omega); have z1 : w.heap.size + 1 < w9.heap.size := (by omega); obtain ⟨hc, hf⟩ := bcell hb))
  all_goals (try go_wp2_with fail)
  refine hK.out _ _ ?_ (fun hH2 => ?_)
  ·(try dsimp only); first | (obtain ⟨k1, k2, k3, k4, k5, k6, k7, k8, kB, kz⟩ := hHeld; exact ⟨cell_later hb k1, cell_later hb k2, cell_later hb k3, cell_later hb k4, cell_later hb k5, cell_later hb k6, cell_later hb k7, cell_later hb k8, bstep kB hb, bsize kz hb⟩) | (obtain ⟨k1, k2, k3, k4, k5, k6, k7, k8, kB, kz⟩ := hHeld; exact ⟨k1, k2, k3, k4, k5, k6, k7, k8, kB, kz⟩)
  clear hK K hHeld; (have hHeld := hH2); clear hH2; (try simp only [pz])
  refine tkD 12 (some 45) rfl ?_; simp only [pz]
  refine rd1 13 none rfl (fun K hK => ?_)
  go_simp
  all_goals (try go_wp2_with fail)
  refine hK.out _ _ ?_ (fun hH2 => ?_)
  ·(try dsimp only); first | (obtain ⟨k1, k2, k3, k4, k5, k6, k7, k8, kB, kz⟩ := hHeld; (have kz2 := kz); (try simp at kz2); exact ⟨crk k1, crk k2, crk k3, crk k4, crk k5, crk k6, crk k7, crk k8, (by with_reducible refine below_realloc kB ?_; omega), (by first | (simp; done) | (simp at kz ⊢; omega) | omega)⟩) | (obtain ⟨k1, k2, k3, k4, k5, k6, k7, k8, kB, kz⟩ := hHeld; exact ⟨csk k1, csk k2, csk k3, csk k4, csk k5, csk k6, csk k7, csk k8, bwz, (by first | (simp; done) | (simp at kz ⊢; omega) | omega)⟩)
  clear hK K hHeld; (have hHeld := hH2); clear hH2; (try simp only [pz])
  refine wpAnyH_done (by kernel_rfl) ?_ _; (try simp only [pz])
  obtain ⟨q1, q2, q3, q4, q5, q6, q7, q8, qB, qz⟩ := hHeld
  go_wp2
  simp [bodyPost, results, Tryz.results68, go_sem, *]
  first | exact ⟨Hr.out.symm, Hq.out.symm⟩ | exact ⟨⟨Hr.out.symm, Hq.out.symm⟩, bwz⟩
end Go.Proofs.YthlnpcneicmblaaGreatDoor
