/- Walks: the windward boat. -/
import Derived.Test.YtkhapajjbomknaaWa
namespace Go.Proofs.Ytkhapajjbomknaa
open Go.RowKit

def ptsOk (X Y : Nat → Int) : Nat → Bool
  | 0 => true
  | k + 1 => ptsOk X Y k && isPt (X k) (Y k)
/-- Of the first k points the first that is farthest to windward. -/
def wbest (wx wy : Int) (X Y : Nat → Int) : Nat → Nat
  | 0 => 0
  | k + 1 => if X k * wx + Y k * wy < X (wbest wx wy X Y k) * wx + Y (wbest wx wy X Y k) * wy then k else wbest wx wy X Y k
theorem wbest_le (wx wy : Int) (X Y : Nat → Int) (k : Nat) : wbest wx wy X Y k ≤ k := by
  induction k with
  | zero => exact Nat.le_refl _
  | succ k ih => unfold wbest; split <;> omega
theorem ptsOk_t {X Y : Nat → Int} {n : Nat} (h : ptsOk X Y n = true) : ∀ i, i < n → isPt (X i) (Y i) = true := by
  induction n with
  | zero => intro i hi; omega
  | succ n ih =>
    intro i hi
    simp only [ptsOk, Bool.and_eq_true] at h
    by_cases e : i = n
    · subst e; exact h.2
    · exact ih h.1 i (by omega)
theorem ptsOk_f {X Y : Nat → Int} {n i : Nat} (h : i < n) (hi : isPt (X i) (Y i) = false) : ptsOk X Y n = false := by
  rcases b2 (ptsOk X Y n) with k | k
  · exact k
  · exact absurd (ptsOk_t k i h) (by rw [hi]; decide)
theorem ptsOk_s {X Y : Nat → Int} {k : Nat} (h : ptsOk X Y k = true) (h2 : isPt (X k) (Y k) = true) : ptsOk X Y (k + 1) = true := by unfold ptsOk; rw [h, h2]; rfl
theorem wbest_yes {wx wy : Int} {X Y : Nat → Int} {k q : Nat} (e : q = wbest wx wy X Y k) (h : X k * wx + Y k * wy < X q * wx + Y q * wy) : k = wbest wx wy X Y (k + 1) := by
  subst e; unfold wbest; rw [if_pos h]
theorem wbest_no {wx wy : Int} {X Y : Nat → Int} {k q : Nat} (e : q = wbest wx wy X Y k) (h : ¬ X k * wx + Y k * wy < X q * wx + Y q * wy) : q = wbest wx wy X Y (k + 1) := by
  subst e; rw [wbest, if_neg h]
theorem wbest_one (wx wy : Int) (X Y : Nat → Int) : 0 = wbest wx wy X Y 1 := by
  show (0 : Nat) = if X 0 * wx + Y 0 * wy < X 0 * wx + Y 0 * wy then 0 else 0
  split <;> rfl
set_option maxRecDepth 100000 in
set_option maxHeartbeats 4000000 in
theorem impl_WindwardBoat (wx wy : Int) (so : Option Addr) (n cap : Nat) (X Y : Nat → Int) (w : World) (h : RowAt w so n 2 (v2 X Y)) (hn : n ≤ 1048576) :
    Calls Try.prog 28 #[.agg #[.int .i64 wx, .int .i64 wy], .slice so n cap] w fun e w' => e = .returned (.tuple #[.int .i64 (sel (decide (n ≤ 16) && isWd wx wy && ptsOk X Y n) (wbest wx wy X Y n : Nat) 0), .int .i64 (sel (decide (n ≤ 16)) (sel (isWd wx wy) (sel (ptsOk X Y n) (sel (decide (n = 0)) 4 0) 1) 1) 3)]) ∧ Below w.heap.size w w' := by
  by_cases h16 : 16 < n
  · have Hr := hide (show decide (n ≤ 16) = false from decide_eq_false (by omega))
    go_enter Try.func28, Try.ntmps28
    go_wp2
    go_ret2
    exact ⟨by rw [Hr.out]; rfl, (by repeat (first | with_reducible exact Below.refl _ _ | with_reducible assumption | with_reducible refine Below.drew ?_ | with_reducible refine below_drewN ?_ _ | with_reducible refine Below.setCell ?_ (by first | exact Nat.le_refl _ | (simp; done) | (simp; omega) | (dsimp only; omega)) _ | with_reducible refine Below.alloc ?_ (by first | exact Nat.le_refl _ | (simp; done) | (simp; omega) | (simp at *; omega)) _ | with_reducible refine bstep ?_ (by assumption)))⟩
  have Hr := hide (show decide (n ≤ 16) = true from decide_eq_true (by omega))
  rcases b2 (isWd wx wy) with g1 | g1
  · go_enter Try.func28, Try.ntmps28
    go_wp2_with (go_at_call 44; (with_reducible refine (impl_IsWind _ _ _).mono ?_); rintro e w9 ⟨rfl, hb⟩; obtain ⟨hc, hf⟩ := bcell hb; have hz := hb.size; have z0 : w.heap.size < w9.heap.size := (by first | omega | (simp at hz; omega)))
    go_ret2
    exact ⟨by rw [Hr.out, g1]; rfl, (by repeat (first | with_reducible exact Below.refl _ _ | with_reducible assumption | with_reducible refine Below.drew ?_ | with_reducible refine below_drewN ?_ _ | with_reducible refine Below.setCell ?_ (by first | exact Nat.le_refl _ | (simp; done) | (simp; omega) | (dsimp only; omega)) _ | with_reducible refine Below.alloc ?_ (by first | exact Nat.le_refl _ | (simp; done) | (simp; omega) | (simp at *; omega)) _ | with_reducible refine bstep ?_ (by assumption)))⟩
  go_enter Try.func28, Try.ntmps28
  go_wp2_with (go_at_call 44; (with_reducible refine (impl_IsWind _ _ _).mono ?_); rintro e w9 ⟨rfl, hb⟩; obtain ⟨hc, hf⟩ := bcell hb; have hz := hb.size; have z0 : w.heap.size < w9.heap.size := (by first | omega | (simp at hz; omega)))
  obtain ⟨wS, rfl⟩ : ∃ wS : World, wS = w9 := ⟨_, rfl⟩
  go_loopw [6, 17] (fun bv i wr => ∃ k : Nat, k ≤ n ∧ i = .int .i64 k ∧ ∃ q : Nat, q ≤ k ∧ bv = .int .i64 q ∧ Hid (q = wbest wx wy X Y k) ∧ Hid (ptsOk X Y k = true) ∧ wr.cell? ⟨w.heap.size, 0, none⟩ = some (.int .i64 wx) ∧ wr.cell? ⟨w.heap.size, 1, none⟩ = some (.int .i64 wy) ∧ Below w.heap.size w wr ∧ w.heap.size + 1 ≤ wr.heap.size) (fun _ i _ => n - (intOf i).toNat)
  case atStart => exact ⟨0, Nat.zero_le _, rfl, 0, Nat.le_refl _, rfl, hide rfl, hide rfl, by go_simp, by go_simp, (by repeat (first | with_reducible exact Below.refl _ _ | with_reducible assumption | with_reducible refine Below.drew ?_ | with_reducible refine below_drewN ?_ _ | with_reducible refine Below.setCell ?_ (by first | exact Nat.le_refl _ | (simp; done) | (simp; omega) | (dsimp only; omega)) _ | with_reducible refine Below.alloc ?_ (by first | exact Nat.le_refl _ | (simp; done) | (simp; omega) | (simp at *; omega)) _ | with_reducible refine bstep ?_ (by assumption))), by omega⟩
  case round =>
    obtain ⟨k, hk, rfl, q, hq, rfl, Hq, Hok, e0, e1, hbl, hsz⟩ := hrel
    clear hb hc hf hz z0
    by_cases hlt : k < n
    · obtain ⟨b, o, rfl, hbs, c0, c1⟩ := (RowAt.later hbl h).at2 k hlt
      obtain ⟨d0, d1⟩ := (RowAt.later hbl h).on2 q (by omega)
      have hi1 : (0 : Int) ≤ (k : Int) := by omega
      have hi2 : (k : Int) < (n : Int) := by omega
      have hi3 : (0 : Int) ≤ (q : Int) := by omega
      have hi4 : (q : Int) < (n : Int) := by omega
      have nz5 : w.heap.size < wr.heap.size := by omega
      rcases b2 (isPt (X k) (Y k)) with g2 | g2
      · go_wp2_with (go_at_call 58; (with_reducible refine (impl_IsPoint _ _ _).mono ?_); rintro e w9 ⟨rfl, hb⟩; obtain ⟨hc, hf⟩ := bcell hb; have hz := hb.size; have z0 : w.heap.size < w9.heap.size := (by first | omega | (simp at hz; omega)); have zzb : b < w9.heap.size := (by first | omega | (simp at hz; omega)))
        go_ret2
        exact ⟨by rw [Hr.out, g1, ptsOk_f hlt g2]; rfl, (by repeat (first | with_reducible exact Below.refl _ _ | with_reducible assumption | with_reducible refine Below.drew ?_ | with_reducible refine below_drewN ?_ _ | with_reducible refine Below.setCell ?_ (by first | exact Nat.le_refl _ | (simp; done) | (simp; omega) | (dsimp only; omega)) _ | with_reducible refine Below.alloc ?_ (by first | exact Nat.le_refl _ | (simp; done) | (simp; omega) | (simp at *; omega)) _ | with_reducible refine bstep ?_ (by assumption)))⟩
      · have gq : isPt (X q) (Y q) = true := ptsOk_t (ptsOk_s Hok.out g2) q (by omega)
        obtain ⟨p1, _, _, p4⟩ := wp_bd g1 g2
        obtain ⟨r1, _, _, r4⟩ := wp_bd g1 gq
        go_upto_region 11 with ((go_at_call 58; (with_reducible refine (impl_IsPoint _ _ _).mono ?_); rintro e w9 ⟨rfl, hb⟩; obtain ⟨hc, hf⟩ := bcell hb; have hz := hb.size; have z0 : w.heap.size < w9.heap.size := (by first | omega | (simp at hz; omega)); have zzb : b < w9.heap.size := (by first | omega | (simp at hz; omega))); have zr : wr.heap.size < w9.heap.size := (by first | omega | (simp at hz; omega)))
        obtain ⟨wP, rfl⟩ : ∃ wP : World, wP = w9 := ⟨_, rfl⟩
        refine wp_region_held_drew (S := (fun W => W.cell? ⟨w.heap.size, 0, none⟩ = some (.int .i64 wx) ∧ W.cell? ⟨w.heap.size, 1, none⟩ = some (.int .i64 wy) ∧ W.cell? ⟨wr.heap.size, 0, none⟩ = some (.int .i64 (X k)) ∧ W.cell? ⟨wr.heap.size, 1, none⟩ = some (.int .i64 (Y k)) ∧ W.cell? ⟨b, o + q * 2, none⟩ = some (.int .i64 (X q)) ∧ W.cell? ⟨b, o + q * 2 + 1, none⟩ = some (.int .i64 (Y q)) ∧ Below w.heap.size w W ∧ w.heap.size + 1 ≤ W.heap.size)) (by kernel_rfl) ?_ (fun hHeld => ?_)
        · exact ⟨(by go_simp; done), (by go_simp; done), (by go_simp; done), (by go_simp; done), (by go_simp; done), (by go_simp; done), (by repeat (first | with_reducible exact Below.refl _ _ | with_reducible assumption | with_reducible refine Below.drew ?_ | with_reducible refine below_drewN ?_ _ | with_reducible refine Below.setCell ?_ (by first | exact Nat.le_refl _ | (simp; done) | (simp; omega) | (dsimp only; omega)) _ | with_reducible refine Below.alloc ?_ (by first | exact Nat.le_refl _ | (simp; done) | (simp; omega) | (simp at *; omega)) _ | with_reducible refine bstep ?_ (by assumption))), (by first | (simp; done) | (simp; omega) | omega)⟩
        refine wpAnyH_take (i := 0) (oi := ⟨some 25, _, _, _, _, _⟩) (v := ?_) rfl (by kernel_rfl) (by kernel_rfl) (by kernel_rfl) (fun _ _ _ h => h) (Or.inl ⟨by kernel_rfl, ?_⟩) (by assumption) ?_; rotate_left; focus (intro W0 hSw; (try dsimp only at hSw); go_simp; (try with_reducible rfl)); (try simp only [Act.put, List.setIfInBounds_toArray, List.set_cons_zero, List.set_cons_succ])
        refine wpAnyH_take (i := 1) (oi := ⟨some 26, _, _, _, _, _⟩) (v := ?_) rfl (by kernel_rfl) (by kernel_rfl) (by kernel_rfl) (fun _ _ _ h => h) (Or.inl ⟨by kernel_rfl, ?_⟩) (by assumption) ?_; rotate_left; focus (intro W0 hSw; (try dsimp only at hSw); go_simp; (try with_reducible rfl)); (try simp only [Act.put, List.setIfInBounds_toArray, List.set_cons_zero, List.set_cons_succ])
        refine wpAnyH_take (i := 3) (oi := ⟨some 28, _, _, _, _, _⟩) (v := ?_) rfl (by kernel_rfl) (by kernel_rfl) (by kernel_rfl) (fun _ _ _ h => h) (Or.inl ⟨by kernel_rfl, ?_⟩) (by assumption) ?_; rotate_left; focus (intro W0 hSw; (try dsimp only at hSw); go_simp; (try with_reducible rfl)); (try simp only [Act.put, List.setIfInBounds_toArray, List.set_cons_zero, List.set_cons_succ])
        refine wpAnyH_take (i := 4) (oi := ⟨some 29, _, _, _, _, _⟩) (v := ?_) rfl (by kernel_rfl) (by kernel_rfl) (by kernel_rfl) (fun _ _ _ h => h) (Or.inl ⟨by kernel_rfl, ?_⟩) (by assumption) ?_; rotate_left; focus (intro W0 hSw; (try dsimp only at hSw); go_simp; (try with_reducible rfl)); (try simp only [Act.put, List.setIfInBounds_toArray, List.set_cons_zero, List.set_cons_succ])
        refine wpAnyH_take (i := 5) (oi := ⟨some 30, _, _, _, _, _⟩) (v := ?_) rfl (by kernel_rfl) (by kernel_rfl) (by kernel_rfl) (fun _ _ _ h => h) (Or.inl ⟨by kernel_rfl, ?_⟩) (by assumption) ?_; rotate_left; focus (intro W0 hSw; (try dsimp only at hSw); go_simp; (try with_reducible rfl)); (try simp only [Act.put, List.setIfInBounds_toArray, List.set_cons_zero, List.set_cons_succ])
        refine wpAnyH_take (i := 6) (oi := ⟨some 31, _, _, _, _, _⟩) (v := ?_) rfl (by kernel_rfl) (by kernel_rfl) (by kernel_rfl) (fun _ _ _ h => h) (Or.inl ⟨by kernel_rfl, ?_⟩) (by assumption) ?_; rotate_left; focus (intro W0 hSw; (try dsimp only at hSw); go_simp; (try with_reducible rfl)); (try simp only [Act.put, List.setIfInBounds_toArray, List.set_cons_zero, List.set_cons_succ])
        refine wpAnyH_take (i := 7) (oi := ⟨some 32, _, _, _, _, _⟩) (v := ?_) rfl (by kernel_rfl) (by kernel_rfl) (by kernel_rfl) (fun _ _ _ h => h) (Or.inl ⟨by kernel_rfl, ?_⟩) (by assumption) ?_; rotate_left; focus (intro W0 hSw; (try dsimp only at hSw); go_simp; (try with_reducible rfl)); (try simp only [Act.put, List.setIfInBounds_toArray, List.set_cons_zero, List.set_cons_succ])
        refine wpAnyH_ready (rs := [2]) (by kernel_rfl) (by simp) ?_; refine (AllReadyH.cons (o := ⟨some 27, _, _, _, _, _⟩) rfl (fun K hK => ?_) AllReadyH.nil)
        go_simp; (first | (go_at_call 65; (with_reducible refine (impl_scalar _ _ (X k) (Y k) p1 p4 _).mono ?_); rintro e w9 ⟨rfl, hb⟩; have hzz := hb.size; (try simp at hzz); have hn0 : ¬ w9.heap.size = w.heap.size := (by omega); have hm0 : ¬ w.heap.size = w9.heap.size := (by omega); have z0 : w.heap.size < w9.heap.size := (by omega); obtain ⟨hc, hf⟩ := bcell hb) | (go_at_call 65; (with_reducible refine (impl_scalar _ _ (X q) (Y q) r1 r4 _).mono ?_); rintro e w9 ⟨rfl, hb⟩; have hzz := hb.size; (try simp at hzz); have hn0 : ¬ w9.heap.size = w.heap.size := (by omega); have hm0 : ¬ w.heap.size = w9.heap.size := (by omega); have z0 : w.heap.size < w9.heap.size := (by omega); obtain ⟨hc, hf⟩ := bcell hb))
        all_goals (try go_wp2_with fail)
        refine hK.out _ _ ?_ (fun hH2 => ?_)
        · (try dsimp only); first | (obtain ⟨k1, k2, k3, k4, k5, k6, kB, kz⟩ := hHeld; exact ⟨cell_later hb k1, cell_later hb k2, cell_later hb k3, cell_later hb k4, cell_later hb k5, cell_later hb k6, bstep kB hb, bsize kz hb⟩) | (obtain ⟨k1, k2, k3, k4, k5, k6, kB, kz⟩ := hHeld; exact ⟨k1, k2, k3, k4, k5, k6, kB, kz⟩)
        clear hK K hHeld; (have hHeld := hH2); clear hH2; (try simp only [Act.put, List.setIfInBounds_toArray, List.set_cons_zero, List.set_cons_succ])
        refine wpAnyH_ready (rs := [8]) (by kernel_rfl) (by simp) ?_; refine (AllReadyH.cons (o := ⟨some 33, _, _, _, _, _⟩) rfl (fun K hK => ?_) AllReadyH.nil)
        go_simp; (first | (go_at_call 65; (with_reducible refine (impl_scalar _ _ (X k) (Y k) p1 p4 _).mono ?_); rintro e w9 ⟨rfl, hb⟩; have hzz := hb.size; (try simp at hzz); have hn0 : ¬ w9.heap.size = w.heap.size := (by omega); have hm0 : ¬ w.heap.size = w9.heap.size := (by omega); have z0 : w.heap.size < w9.heap.size := (by omega); obtain ⟨hc, hf⟩ := bcell hb) | (go_at_call 65; (with_reducible refine (impl_scalar _ _ (X q) (Y q) r1 r4 _).mono ?_); rintro e w9 ⟨rfl, hb⟩; have hzz := hb.size; (try simp at hzz); have hn0 : ¬ w9.heap.size = w.heap.size := (by omega); have hm0 : ¬ w.heap.size = w9.heap.size := (by omega); have z0 : w.heap.size < w9.heap.size := (by omega); obtain ⟨hc, hf⟩ := bcell hb))
        all_goals (try go_wp2_with fail)
        refine hK.out _ _ ?_ (fun hH2 => ?_)
        · (try dsimp only); first | (obtain ⟨k1, k2, k3, k4, k5, k6, kB, kz⟩ := hHeld; exact ⟨cell_later hb k1, cell_later hb k2, cell_later hb k3, cell_later hb k4, cell_later hb k5, cell_later hb k6, bstep kB hb, bsize kz hb⟩) | (obtain ⟨k1, k2, k3, k4, k5, k6, kB, kz⟩ := hHeld; exact ⟨k1, k2, k3, k4, k5, k6, kB, kz⟩)
        clear hK K hHeld; (have hHeld := hH2); clear hH2; (try simp only [Act.put, List.setIfInBounds_toArray, List.set_cons_zero, List.set_cons_succ])
        refine wpAnyH_take (i := 9) (oi := ⟨some 34, _, _, _, _, _⟩) (v := ?_) rfl (by kernel_rfl) (by kernel_rfl) (by kernel_rfl) (fun _ _ _ h => h) (Or.inl ⟨by kernel_rfl, ?_⟩) (by assumption) ?_; rotate_left; focus (intro W0 hSw; (try dsimp only at hSw); go_simp; (try with_reducible rfl)); (try simp only [Act.put, List.setIfInBounds_toArray, List.set_cons_zero, List.set_cons_succ])
        refine wpAnyH_done (by kernel_rfl) ?_ _; (try simp only [Act.put, List.setIfInBounds_toArray, List.set_cons_zero, List.set_cons_succ])
        obtain ⟨k1, k2, k3, k4, k5, k6, kB, kz⟩ := hHeld
        by_cases g3 : X k * wx + Y k * wy < X q * wx + Y q * wy
        · go_wp2
          go_roundw
          case rel => exact ⟨k + 1, by omega, by go_num, k, by omega, rfl, hide (wbest_yes Hq.out g3), hide (ptsOk_s Hok.out g2), k1, k2, kB, kz⟩
          case measure => simp [intOf]; omega
        · go_wp2
          go_roundw
          case rel => exact ⟨k + 1, by omega, by go_num, q, by omega, rfl, hide (wbest_no Hq.out g3), hide (ptsOk_s Hok.out g2), k1, k2, kB, kz⟩
          case measure => simp [intOf]; omega
    · obtain rfl : k = n := by omega
      by_cases g4 : k = 0
      · subst g4
        go_wp2
        go_ret2
        exact ⟨by simp [sel, g1, Hok.out, wbest], hbl⟩
      · have Hd := hide (show decide (k = 0) = false from decide_eq_false g4)
        have g5 : ((k : Int) == 0) = false := by simp; omega
        go_wp2
        go_ret2
        exact ⟨by rw [Hr.out, g1, Hok.out, Hd.out, ← Hq.out]; rfl, hbl⟩
set_option maxRecDepth 100000 in
set_option maxHeartbeats 4000000 in
theorem spec_WindwardBoat (wx wy : Int) (so : Option Addr) (n cap : Nat) (X Y : Nat → Int) (w : World) (h : RowAt w so n 2 (v2 X Y)) (hn : n ≤ 1048576) :
    Calls Try.prog 29 #[.agg #[.int .i64 wx, .int .i64 wy], .slice so n cap] w fun e w' => e = .returned (.tuple #[.int .i64 (sel (decide (n ≤ 16) && isWd wx wy && ptsOk X Y n) (wbest wx wy X Y n : Nat) 0), .int .i64 (sel (decide (n ≤ 16)) (sel (isWd wx wy) (sel (ptsOk X Y n) (sel (decide (n = 0)) 4 0) 1) 1) 3)]) ∧ Below w.heap.size w w' := by
  by_cases h16 : 16 < n
  · have Hr := hide (show decide (n ≤ 16) = false from decide_eq_false (by omega))
    go_enter Try.func29, Try.ntmps29
    go_wp2
    go_ret2
    exact ⟨by rw [Hr.out]; rfl, (by repeat (first | with_reducible exact Below.refl _ _ | with_reducible assumption | with_reducible refine Below.drew ?_ | with_reducible refine below_drewN ?_ _ | with_reducible refine Below.setCell ?_ (by first | exact Nat.le_refl _ | (simp; done) | (simp; omega) | (dsimp only; omega)) _ | with_reducible refine Below.alloc ?_ (by first | exact Nat.le_refl _ | (simp; done) | (simp; omega) | (simp at *; omega)) _ | with_reducible refine bstep ?_ (by assumption)))⟩
  have Hr := hide (show decide (n ≤ 16) = true from decide_eq_true (by omega))
  rcases b2 (isWd wx wy) with g1 | g1
  · go_enter Try.func29, Try.ntmps29
    go_wp2_with (go_at_call 47; (with_reducible refine (spec_IsWind _ _ _).mono ?_); rintro e w9 ⟨rfl, hb⟩; obtain ⟨hc, hf⟩ := bcell hb; have hz := hb.size; have z0 : w.heap.size < w9.heap.size := (by first | omega | (simp at hz; omega)))
    go_ret2
    exact ⟨by rw [Hr.out, g1]; rfl, (by repeat (first | with_reducible exact Below.refl _ _ | with_reducible assumption | with_reducible refine Below.drew ?_ | with_reducible refine below_drewN ?_ _ | with_reducible refine Below.setCell ?_ (by first | exact Nat.le_refl _ | (simp; done) | (simp; omega) | (dsimp only; omega)) _ | with_reducible refine Below.alloc ?_ (by first | exact Nat.le_refl _ | (simp; done) | (simp; omega) | (simp at *; omega)) _ | with_reducible refine bstep ?_ (by assumption)))⟩
  go_enter Try.func29, Try.ntmps29
  go_wp2_with (go_at_call 47; (with_reducible refine (spec_IsWind _ _ _).mono ?_); rintro e w9 ⟨rfl, hb⟩; obtain ⟨hc, hf⟩ := bcell hb; have hz := hb.size; have z0 : w.heap.size < w9.heap.size := (by first | omega | (simp at hz; omega)))
  obtain ⟨wS, rfl⟩ : ∃ wS : World, wS = w9 := ⟨_, rfl⟩
  go_loopw [6] (fun i wr => ∃ k : Nat, k ≤ n ∧ i = .int .i64 k ∧ Hid (ptsOk X Y k = true) ∧ wr.cell? ⟨w.heap.size, 0, none⟩ = some (.int .i64 wx) ∧ wr.cell? ⟨w.heap.size, 1, none⟩ = some (.int .i64 wy) ∧ Below w.heap.size w wr ∧ w.heap.size + 1 ≤ wr.heap.size) (fun i _ => n - (intOf i).toNat)
  case atStart => exact ⟨0, Nat.zero_le _, rfl, hide rfl, by go_simp, by go_simp, (by repeat (first | with_reducible exact Below.refl _ _ | with_reducible assumption | with_reducible refine Below.drew ?_ | with_reducible refine below_drewN ?_ _ | with_reducible refine Below.setCell ?_ (by first | exact Nat.le_refl _ | (simp; done) | (simp; omega) | (dsimp only; omega)) _ | with_reducible refine Below.alloc ?_ (by first | exact Nat.le_refl _ | (simp; done) | (simp; omega) | (simp at *; omega)) _ | with_reducible refine bstep ?_ (by assumption))), by omega⟩
  case round =>
    obtain ⟨k, hk, rfl, Hok, e0, e1, hbl, hsz⟩ := hrel
    clear hb hc hf hz z0
    by_cases hlt : k < n
    · obtain ⟨b, o, rfl, hbs, c0, c1⟩ := (RowAt.later hbl h).at2 k hlt
      have nz5 : w.heap.size < wr.heap.size := by omega
      rcases b2 (isPt (X k) (Y k)) with g2 | g2
      · go_wp2_with (go_at_call 67; (with_reducible refine (spec_IsPoint _ _ _).mono ?_); rintro e w9 ⟨rfl, hb⟩; obtain ⟨hc, hf⟩ := bcell hb; have hz := hb.size; have z0 : w.heap.size < w9.heap.size := (by first | omega | (simp at hz; omega)); have zzb : b < w9.heap.size := (by first | omega | (simp at hz; omega)))
        go_ret2
        exact ⟨by rw [Hr.out, g1, ptsOk_f hlt g2]; rfl, (by repeat (first | with_reducible exact Below.refl _ _ | with_reducible assumption | with_reducible refine Below.drew ?_ | with_reducible refine below_drewN ?_ _ | with_reducible refine Below.setCell ?_ (by first | exact Nat.le_refl _ | (simp; done) | (simp; omega) | (dsimp only; omega)) _ | with_reducible refine Below.alloc ?_ (by first | exact Nat.le_refl _ | (simp; done) | (simp; omega) | (simp at *; omega)) _ | with_reducible refine bstep ?_ (by assumption)))⟩
      · go_wp2_with (go_at_call 67; (with_reducible refine (spec_IsPoint _ _ _).mono ?_); rintro e w9 ⟨rfl, hb⟩; obtain ⟨hc, hf⟩ := bcell hb; have hz := hb.size; have z0 : w.heap.size < w9.heap.size := (by first | omega | (simp at hz; omega)); have zzb : b < w9.heap.size := (by first | omega | (simp at hz; omega)))
        go_roundw
        case rel => exact ⟨k + 1, by omega, by go_num, hide (ptsOk_s Hok.out g2), by go_simp, by go_simp, (by repeat (first | with_reducible exact Below.refl _ _ | with_reducible assumption | with_reducible refine Below.drew ?_ | with_reducible refine below_drewN ?_ _ | with_reducible refine Below.setCell ?_ (by first | exact Nat.le_refl _ | (simp; done) | (simp; omega) | (dsimp only; omega)) _ | with_reducible refine Below.alloc ?_ (by first | exact Nat.le_refl _ | (simp; done) | (simp; omega) | (simp at *; omega)) _ | with_reducible refine bstep ?_ (by assumption))), by omega⟩
        case measure => simp [intOf]; omega
    · obtain rfl : k = n := by omega
      by_cases g4 : k = 0
      · subst g4
        go_wp2
        go_ret2
        exact ⟨by simp [sel, g1, Hok.out, wbest], hbl⟩
      · have Hd := hide (show decide (k = 0) = false from decide_eq_false g4)
        have g5 : ((k : Int) == 0) = false := by simp; omega
        obtain ⟨wo, rfl⟩ : ∃ wo : World, wo = wr := ⟨_, rfl⟩
        go_wp2
        go_loopw [7, 8] (fun bv i wr => ∃ j : Nat, 1 ≤ j ∧ j ≤ k ∧ i = .int .i64 j ∧ ∃ q : Nat, q ≤ j ∧ bv = .int .i64 q ∧ Hid (q = wbest wx wy X Y j) ∧ wr.cell? ⟨w.heap.size, 0, none⟩ = some (.int .i64 wx) ∧ wr.cell? ⟨w.heap.size, 1, none⟩ = some (.int .i64 wy) ∧ Below w.heap.size w wr ∧ w.heap.size + 1 ≤ wr.heap.size) (fun _ i _ => k - (intOf i).toNat)
        case atStart => exact ⟨1, Nat.le_refl _, by omega, rfl, 0, by omega, rfl, hide (wbest_one _ _ _ _), e0, e1, hbl, hsz⟩
        case round =>
          obtain ⟨j, hj1, hj, rfl, q, hq, rfl, Hq, e2, e3, hbl2, hsz2⟩ := hrel
          clear e0 e1 hbl hsz
          by_cases hlt2 : j < k
          · obtain ⟨b, o, rfl, hbs, c0, c1⟩ := (RowAt.later hbl2 h).at2 j hlt2
            obtain ⟨d0, d1⟩ := (RowAt.later hbl2 h).on2 q (by omega)
            have hi1 : (0 : Int) ≤ (j : Int) := by omega
            have hi2 : (j : Int) < (k : Int) := by omega
            have hi3 : (0 : Int) ≤ (q : Int) := by omega
            have hi4 : (q : Int) < (k : Int) := by omega
            have gj : isPt (X j) (Y j) = true := ptsOk_t Hok.out j hlt2
            have gq : isPt (X q) (Y q) = true := ptsOk_t Hok.out q (by omega)
            obtain ⟨p1, _, _, p4⟩ := wp_bd g1 gj
            obtain ⟨r1, _, _, r4⟩ := wp_bd g1 gq
            go_upto_region 16 with fail
            refine wp_region_held_drew (S := (fun W => W.cell? ⟨w.heap.size, 0, none⟩ = some (.int .i64 wx) ∧ W.cell? ⟨w.heap.size, 1, none⟩ = some (.int .i64 wy) ∧ W.cell? ⟨b, o + j * 2, none⟩ = some (.int .i64 (X j)) ∧ W.cell? ⟨b, o + j * 2 + 1, none⟩ = some (.int .i64 (Y j)) ∧ W.cell? ⟨b, o + q * 2, none⟩ = some (.int .i64 (X q)) ∧ W.cell? ⟨b, o + q * 2 + 1, none⟩ = some (.int .i64 (Y q)) ∧ Below w.heap.size w W ∧ w.heap.size + 1 ≤ W.heap.size)) (by kernel_rfl) ?_ (fun hHeld => ?_)
            · exact ⟨(by go_simp; done), (by go_simp; done), (by go_simp; done), (by go_simp; done), (by go_simp; done), (by go_simp; done), (by repeat (first | with_reducible exact Below.refl _ _ | with_reducible assumption | with_reducible refine Below.drew ?_ | with_reducible refine below_drewN ?_ _ | with_reducible refine Below.setCell ?_ (by first | exact Nat.le_refl _ | (simp; done) | (simp; omega) | (dsimp only; omega)) _ | with_reducible refine Below.alloc ?_ (by first | exact Nat.le_refl _ | (simp; done) | (simp; omega) | (simp at *; omega)) _ | with_reducible refine bstep ?_ (by assumption))), (by first | (simp; done) | (simp; omega) | omega)⟩
            refine wpAnyH_take (i := 0) (oi := ⟨some 36, _, _, _, _, _⟩) (v := ?_) rfl (by kernel_rfl) (by kernel_rfl) (by kernel_rfl) (fun _ _ _ h => h) (Or.inl ⟨by kernel_rfl, ?_⟩) (by assumption) ?_; rotate_left; focus (intro W0 hSw; (try dsimp only at hSw); go_simp; (try with_reducible rfl)); (try simp only [Act.put, List.setIfInBounds_toArray, List.set_cons_zero, List.set_cons_succ])
            refine wpAnyH_take (i := 1) (oi := ⟨some 37, _, _, _, _, _⟩) (v := ?_) rfl (by kernel_rfl) (by kernel_rfl) (by kernel_rfl) (fun _ _ _ h => h) (Or.inl ⟨by kernel_rfl, ?_⟩) (by assumption) ?_; rotate_left; focus (intro W0 hSw; (try dsimp only at hSw); go_simp; (try with_reducible rfl)); (try simp only [Act.put, List.setIfInBounds_toArray, List.set_cons_zero, List.set_cons_succ])
            refine wpAnyH_take (i := 2) (oi := ⟨some 38, _, _, _, _, _⟩) (v := ?_) rfl (by kernel_rfl) (by kernel_rfl) (by kernel_rfl) (fun _ _ _ h => h) (Or.inl ⟨by kernel_rfl, ?_⟩) (by assumption) ?_; rotate_left; focus (intro W0 hSw; (try dsimp only at hSw); go_simp; (try with_reducible rfl)); (try simp only [Act.put, List.setIfInBounds_toArray, List.set_cons_zero, List.set_cons_succ])
            refine wpAnyH_take (i := 3) (oi := ⟨some 39, _, _, _, _, _⟩) (v := ?_) rfl (by kernel_rfl) (by kernel_rfl) (by kernel_rfl) (fun _ _ _ h => h) (Or.inl ⟨by kernel_rfl, ?_⟩) (by assumption) ?_; rotate_left; focus (intro W0 hSw; (try dsimp only at hSw); go_simp; (try with_reducible rfl)); (try simp only [Act.put, List.setIfInBounds_toArray, List.set_cons_zero, List.set_cons_succ])
            refine wpAnyH_take (i := 4) (oi := ⟨some 40, _, _, _, _, _⟩) (v := ?_) rfl (by kernel_rfl) (by kernel_rfl) (by kernel_rfl) (fun _ _ _ h => h) (Or.inl ⟨by kernel_rfl, ?_⟩) (by assumption) ?_; rotate_left; focus (intro W0 hSw; (try dsimp only at hSw); go_simp; (try with_reducible rfl)); (try simp only [Act.put, List.setIfInBounds_toArray, List.set_cons_zero, List.set_cons_succ])
            refine wpAnyH_take (i := 7) (oi := ⟨some 43, _, _, _, _, _⟩) (v := ?_) rfl (by kernel_rfl) (by kernel_rfl) (by kernel_rfl) (fun _ _ _ h => h) (Or.inl ⟨by kernel_rfl, ?_⟩) (by assumption) ?_; rotate_left; focus (intro W0 hSw; (try dsimp only at hSw); go_simp; (try with_reducible rfl)); (try simp only [Act.put, List.setIfInBounds_toArray, List.set_cons_zero, List.set_cons_succ])
            refine wpAnyH_take (i := 8) (oi := ⟨some 44, _, _, _, _, _⟩) (v := ?_) rfl (by kernel_rfl) (by kernel_rfl) (by kernel_rfl) (fun _ _ _ h => h) (Or.inl ⟨by kernel_rfl, ?_⟩) (by assumption) ?_; rotate_left; focus (intro W0 hSw; (try dsimp only at hSw); go_simp; (try with_reducible rfl)); (try simp only [Act.put, List.setIfInBounds_toArray, List.set_cons_zero, List.set_cons_succ])
            refine wpAnyH_take (i := 9) (oi := ⟨some 45, _, _, _, _, _⟩) (v := ?_) rfl (by kernel_rfl) (by kernel_rfl) (by kernel_rfl) (fun _ _ _ h => h) (Or.inl ⟨by kernel_rfl, ?_⟩) (by assumption) ?_; rotate_left; focus (intro W0 hSw; (try dsimp only at hSw); go_simp; (try with_reducible rfl)); (try simp only [Act.put, List.setIfInBounds_toArray, List.set_cons_zero, List.set_cons_succ])
            refine wpAnyH_take (i := 10) (oi := ⟨some 46, _, _, _, _, _⟩) (v := ?_) rfl (by kernel_rfl) (by kernel_rfl) (by kernel_rfl) (fun _ _ _ h => h) (Or.inl ⟨by kernel_rfl, ?_⟩) (by assumption) ?_; rotate_left; focus (intro W0 hSw; (try dsimp only at hSw); go_simp; (try with_reducible rfl)); (try simp only [Act.put, List.setIfInBounds_toArray, List.set_cons_zero, List.set_cons_succ])
            refine wpAnyH_take (i := 11) (oi := ⟨some 47, _, _, _, _, _⟩) (v := ?_) rfl (by kernel_rfl) (by kernel_rfl) (by kernel_rfl) (fun _ _ _ h => h) (Or.inl ⟨by kernel_rfl, ?_⟩) (by assumption) ?_; rotate_left; focus (intro W0 hSw; (try dsimp only at hSw); go_simp; (try with_reducible rfl)); (try simp only [Act.put, List.setIfInBounds_toArray, List.set_cons_zero, List.set_cons_succ])
            refine wpAnyH_ready (rs := [5]) (by kernel_rfl) (by simp) ?_; refine (AllReadyH.cons (o := ⟨some 41, _, _, _, _, _⟩) rfl (fun K hK => ?_) AllReadyH.nil)
            go_simp; (first | (go_at_call 68; (with_reducible refine (spec_l08Vector _ _ _).mono ?_); rintro e w9 ⟨rfl, hb⟩; have hzz := hb.size; (try simp at hzz); have hn0 : ¬ w9.heap.size = w.heap.size := (by omega); have hm0 : ¬ w.heap.size = w9.heap.size := (by omega); have z0 : w.heap.size < w9.heap.size := (by omega); obtain ⟨hc, hf⟩ := bcell hb) | (go_at_call 70; (with_reducible refine (spec_l01Dot (X j) (Y j) _ _ p1 p4 _).mono ?_); rintro e w9 ⟨rfl, hb⟩; have hzz := hb.size; (try simp at hzz); have hn0 : ¬ w9.heap.size = w.heap.size := (by omega); have hm0 : ¬ w.heap.size = w9.heap.size := (by omega); have z0 : w.heap.size < w9.heap.size := (by omega); obtain ⟨hc, hf⟩ := bcell hb) | (go_at_call 70; (with_reducible refine (spec_l01Dot (X q) (Y q) _ _ r1 r4 _).mono ?_); rintro e w9 ⟨rfl, hb⟩; have hzz := hb.size; (try simp at hzz); have hn0 : ¬ w9.heap.size = w.heap.size := (by omega); have hm0 : ¬ w.heap.size = w9.heap.size := (by omega); have z0 : w.heap.size < w9.heap.size := (by omega); obtain ⟨hc, hf⟩ := bcell hb))
            all_goals (try go_wp2_with fail)
            refine hK.out _ _ ?_ (fun hH2 => ?_)
            · (try dsimp only); first | (obtain ⟨k1, k2, k3, k4, k5, k6, kB, kz⟩ := hHeld; exact ⟨cell_later hb k1, cell_later hb k2, cell_later hb k3, cell_later hb k4, cell_later hb k5, cell_later hb k6, bstep kB hb, bsize kz hb⟩) | (obtain ⟨k1, k2, k3, k4, k5, k6, kB, kz⟩ := hHeld; exact ⟨k1, k2, k3, k4, k5, k6, kB, kz⟩)
            clear hK K hHeld; (have hHeld := hH2); clear hH2; (try simp only [Act.put, List.setIfInBounds_toArray, List.set_cons_zero, List.set_cons_succ])
            refine wpAnyH_ready (rs := [6]) (by kernel_rfl) (by simp) ?_; refine (AllReadyH.cons (o := ⟨some 42, _, _, _, _, _⟩) rfl (fun K hK => ?_) AllReadyH.nil)
            go_simp; (first | (go_at_call 68; (with_reducible refine (spec_l08Vector _ _ _).mono ?_); rintro e w9 ⟨rfl, hb⟩; have hzz := hb.size; (try simp at hzz); have hn0 : ¬ w9.heap.size = w.heap.size := (by omega); have hm0 : ¬ w.heap.size = w9.heap.size := (by omega); have z0 : w.heap.size < w9.heap.size := (by omega); obtain ⟨hc, hf⟩ := bcell hb) | (go_at_call 70; (with_reducible refine (spec_l01Dot (X j) (Y j) _ _ p1 p4 _).mono ?_); rintro e w9 ⟨rfl, hb⟩; have hzz := hb.size; (try simp at hzz); have hn0 : ¬ w9.heap.size = w.heap.size := (by omega); have hm0 : ¬ w.heap.size = w9.heap.size := (by omega); have z0 : w.heap.size < w9.heap.size := (by omega); obtain ⟨hc, hf⟩ := bcell hb) | (go_at_call 70; (with_reducible refine (spec_l01Dot (X q) (Y q) _ _ r1 r4 _).mono ?_); rintro e w9 ⟨rfl, hb⟩; have hzz := hb.size; (try simp at hzz); have hn0 : ¬ w9.heap.size = w.heap.size := (by omega); have hm0 : ¬ w.heap.size = w9.heap.size := (by omega); have z0 : w.heap.size < w9.heap.size := (by omega); obtain ⟨hc, hf⟩ := bcell hb))
            all_goals (try go_wp2_with fail)
            refine hK.out _ _ ?_ (fun hH2 => ?_)
            · (try dsimp only); first | (obtain ⟨k1, k2, k3, k4, k5, k6, kB, kz⟩ := hHeld; exact ⟨cell_later hb k1, cell_later hb k2, cell_later hb k3, cell_later hb k4, cell_later hb k5, cell_later hb k6, bstep kB hb, bsize kz hb⟩) | (obtain ⟨k1, k2, k3, k4, k5, k6, kB, kz⟩ := hHeld; exact ⟨k1, k2, k3, k4, k5, k6, kB, kz⟩)
            clear hK K hHeld; (have hHeld := hH2); clear hH2; (try simp only [Act.put, List.setIfInBounds_toArray, List.set_cons_zero, List.set_cons_succ])
            refine wpAnyH_ready (rs := [12]) (by kernel_rfl) (by simp) ?_; refine (AllReadyH.cons (o := ⟨some 48, _, _, _, _, _⟩) rfl (fun K hK => ?_) AllReadyH.nil)
            go_simp; (first | (go_at_call 68; (with_reducible refine (spec_l08Vector _ _ _).mono ?_); rintro e w9 ⟨rfl, hb⟩; have hzz := hb.size; (try simp at hzz); have hn0 : ¬ w9.heap.size = w.heap.size := (by omega); have hm0 : ¬ w.heap.size = w9.heap.size := (by omega); have z0 : w.heap.size < w9.heap.size := (by omega); obtain ⟨hc, hf⟩ := bcell hb) | (go_at_call 70; (with_reducible refine (spec_l01Dot (X j) (Y j) _ _ p1 p4 _).mono ?_); rintro e w9 ⟨rfl, hb⟩; have hzz := hb.size; (try simp at hzz); have hn0 : ¬ w9.heap.size = w.heap.size := (by omega); have hm0 : ¬ w.heap.size = w9.heap.size := (by omega); have z0 : w.heap.size < w9.heap.size := (by omega); obtain ⟨hc, hf⟩ := bcell hb) | (go_at_call 70; (with_reducible refine (spec_l01Dot (X q) (Y q) _ _ r1 r4 _).mono ?_); rintro e w9 ⟨rfl, hb⟩; have hzz := hb.size; (try simp at hzz); have hn0 : ¬ w9.heap.size = w.heap.size := (by omega); have hm0 : ¬ w.heap.size = w9.heap.size := (by omega); have z0 : w.heap.size < w9.heap.size := (by omega); obtain ⟨hc, hf⟩ := bcell hb))
            all_goals (try go_wp2_with fail)
            refine hK.out _ _ ?_ (fun hH2 => ?_)
            · (try dsimp only); first | (obtain ⟨k1, k2, k3, k4, k5, k6, kB, kz⟩ := hHeld; exact ⟨cell_later hb k1, cell_later hb k2, cell_later hb k3, cell_later hb k4, cell_later hb k5, cell_later hb k6, bstep kB hb, bsize kz hb⟩) | (obtain ⟨k1, k2, k3, k4, k5, k6, kB, kz⟩ := hHeld; exact ⟨k1, k2, k3, k4, k5, k6, kB, kz⟩)
            clear hK K hHeld; (have hHeld := hH2); clear hH2; (try simp only [Act.put, List.setIfInBounds_toArray, List.set_cons_zero, List.set_cons_succ])
            refine wpAnyH_ready (rs := [13]) (by kernel_rfl) (by simp) ?_; refine (AllReadyH.cons (o := ⟨some 49, _, _, _, _, _⟩) rfl (fun K hK => ?_) AllReadyH.nil)
            go_simp; (first | (go_at_call 68; (with_reducible refine (spec_l08Vector _ _ _).mono ?_); rintro e w9 ⟨rfl, hb⟩; have hzz := hb.size; (try simp at hzz); have hn0 : ¬ w9.heap.size = w.heap.size := (by omega); have hm0 : ¬ w.heap.size = w9.heap.size := (by omega); have z0 : w.heap.size < w9.heap.size := (by omega); obtain ⟨hc, hf⟩ := bcell hb) | (go_at_call 70; (with_reducible refine (spec_l01Dot (X j) (Y j) _ _ p1 p4 _).mono ?_); rintro e w9 ⟨rfl, hb⟩; have hzz := hb.size; (try simp at hzz); have hn0 : ¬ w9.heap.size = w.heap.size := (by omega); have hm0 : ¬ w.heap.size = w9.heap.size := (by omega); have z0 : w.heap.size < w9.heap.size := (by omega); obtain ⟨hc, hf⟩ := bcell hb) | (go_at_call 70; (with_reducible refine (spec_l01Dot (X q) (Y q) _ _ r1 r4 _).mono ?_); rintro e w9 ⟨rfl, hb⟩; have hzz := hb.size; (try simp at hzz); have hn0 : ¬ w9.heap.size = w.heap.size := (by omega); have hm0 : ¬ w.heap.size = w9.heap.size := (by omega); have z0 : w.heap.size < w9.heap.size := (by omega); obtain ⟨hc, hf⟩ := bcell hb))
            all_goals (try go_wp2_with fail)
            refine hK.out _ _ ?_ (fun hH2 => ?_)
            · (try dsimp only); first | (obtain ⟨k1, k2, k3, k4, k5, k6, kB, kz⟩ := hHeld; exact ⟨cell_later hb k1, cell_later hb k2, cell_later hb k3, cell_later hb k4, cell_later hb k5, cell_later hb k6, bstep kB hb, bsize kz hb⟩) | (obtain ⟨k1, k2, k3, k4, k5, k6, kB, kz⟩ := hHeld; exact ⟨k1, k2, k3, k4, k5, k6, kB, kz⟩)
            clear hK K hHeld; (have hHeld := hH2); clear hH2; (try simp only [Act.put, List.setIfInBounds_toArray, List.set_cons_zero, List.set_cons_succ])
            refine wpAnyH_take (i := 14) (oi := ⟨some 50, _, _, _, _, _⟩) (v := ?_) rfl (by kernel_rfl) (by kernel_rfl) (by kernel_rfl) (fun _ _ _ h => h) (Or.inl ⟨by kernel_rfl, ?_⟩) (by assumption) ?_; rotate_left; focus (intro W0 hSw; (try dsimp only at hSw); go_simp; (try with_reducible rfl)); (try simp only [Act.put, List.setIfInBounds_toArray, List.set_cons_zero, List.set_cons_succ])
            refine wpAnyH_done (by kernel_rfl) ?_ _; (try simp only [Act.put, List.setIfInBounds_toArray, List.set_cons_zero, List.set_cons_succ])
            obtain ⟨k1, k2, k3, k4, k5, k6, kB, kz⟩ := hHeld
            by_cases g3 : X j * wx + Y j * wy < X q * wx + Y q * wy
            · go_wp2
              go_roundw
              case rel => exact ⟨j + 1, by omega, by omega, by go_num, j, by omega, rfl, hide (wbest_yes Hq.out g3), k1, k2, kB, kz⟩
              case measure => simp [intOf]; omega
            · go_wp2
              go_roundw
              case rel => exact ⟨j + 1, by omega, by omega, by go_num, q, by omega, rfl, hide (wbest_no Hq.out g3), k1, k2, kB, kz⟩
              case measure => simp [intOf]; omega
          · obtain rfl : j = k := by omega
            go_wp2
            go_ret2
            exact ⟨by rw [Hr.out, g1, Hok.out, Hd.out, ← Hq.out]; rfl, hbl2⟩
end Go.Proofs.Ytkhapajjbomknaa
