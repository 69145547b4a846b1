/- Walks: hulls that are near. -/
import Derived.Test.YtkhapajjbomknaaBn
import Derived.Test.YtkhapajjbomknaaJh0
import Derived.Deep.DeepCutAuto
import Derived.Test.YtkhapajjbomknaaBm
import Derived.Test.YtkhapajjbomknaaIb
import Derived.Test.YtkhapajjbomknaaIw
namespace Go.Proofs.Ytkhapajjbomknaa
open Go.RowKit

set_option maxRecDepth 100000 in
set_option maxHeartbeats 8000000 in
theorem spec_HullsNear (bx bY hx hy l cx cy ix iy m d : Int) (w : World) :
    Calls Try.prog 40 #[.agg #[.int .i64 bx, .int .i64 bY, .int .i64 hx, .int .i64 hy, .int .i64 l], .agg #[.int .i64 cx, .int .i64 cy, .int .i64 ix, .int .i64 iy, .int .i64 m], .int .i64 d] w fun e w' => e = .returned (.tuple #[.bool (selB ((isHu bx bY hx hy l && isHu cx cy ix iy m) && (inB d 0 10000 && (isSg (stx bx hx hy l) (sty bY hx hy l) bx bY && isSg (stx cx ix iy m) (sty cy ix iy m) cx cy))) (nearB (stx bx hx hy l) (sty bY hx hy l) bx bY (stx cx ix iy m) (sty cy ix iy m) cx cy d) false), .int .i64 (sel (isHu bx bY hx hy l && isHu cx cy ix iy m) (sel (inB d 0 10000 && (isSg (stx bx hx hy l) (sty bY hx hy l) bx bY && isSg (stx cx ix iy m) (sty cy ix iy m) cx cy)) 0 2) 1)]) ∧ Below w.heap.size w w' := by
  rcases b3 (isHu bx bY hx hy l) (isHu cx cy ix iy m) with g1 | ⟨g1, g2⟩ | ⟨g1, g2⟩
  · go_enter Try.func40, Try.ntmps40
    go_wp2_with (first | (go_at_call 54; (with_reducible refine (spec_IsHull _ _ _ _ _ _).mono ?_); rintro e w9 ⟨rfl, hb⟩; obtain ⟨hc, hf⟩ := bcell hb; have hz := hb.size; have z0 : w.heap.size < w9.heap.size := (by first | omega | (simp at hz; omega)); have z1 : w.heap.size + 1 < w9.heap.size := (by first | omega | (simp at hz; omega))))
    go_ret2
    exact ⟨by simp [sel, selB, g1], (by repeat (first | with_reducible exact Below.refl _ _ | with_reducible assumption | with_reducible refine Below.drew ?_ | with_reducible refine below_drewN ?_ _ | with_reducible refine Below.setCell ?_ (by first | exact Nat.le_refl _ | (simp; done) | (simp; omega) | (dsimp only; omega)) _ | with_reducible refine Below.alloc ?_ (by first | exact Nat.le_refl _ | (simp; done) | (simp; omega) | (simp at *; omega)) _ | with_reducible refine bstep ?_ (by assumption)))⟩
  · go_enter Try.func40, Try.ntmps40
    go_wp2_with (first | (go_at_call 54; (with_reducible refine (spec_IsHull _ _ _ _ _ _).mono ?_); rintro e w9 ⟨rfl, hb⟩; obtain ⟨hc, hf⟩ := bcell hb; have hz := hb.size; have z0 : w.heap.size < w9.heap.size := (by first | omega | (simp at hz; omega)); have z1 : w.heap.size + 1 < w9.heap.size := (by first | omega | (simp at hz; omega))))
    go_ret2
    exact ⟨by simp [sel, selB, g1, g2], (by repeat (first | with_reducible exact Below.refl _ _ | with_reducible assumption | with_reducible refine Below.drew ?_ | with_reducible refine below_drewN ?_ _ | with_reducible refine Below.setCell ?_ (by first | exact Nat.le_refl _ | (simp; done) | (simp; omega) | (dsimp only; omega)) _ | with_reducible refine Below.alloc ?_ (by first | exact Nat.le_refl _ | (simp; done) | (simp; omega) | (simp at *; omega)) _ | with_reducible refine bstep ?_ (by assumption)))⟩
  · go_enter Try.func40, Try.ntmps40
    go_upto_region 3 with (first | (go_at_call 54; (with_reducible refine (spec_IsHull _ _ _ _ _ _).mono ?_); rintro e w9 ⟨rfl, hb⟩; obtain ⟨hc, hf⟩ := bcell hb; have hz := hb.size; have z0 : w.heap.size < w9.heap.size := (by first | omega | (simp at hz; omega)); have z1 : w.heap.size + 1 < w9.heap.size := (by first | omega | (simp at hz; omega))))
    go_cut [8, 9] (fun s8 s9 W => ∃ g h : Nat, s8 = .pointer (some ⟨g, 0, none⟩) ∧ s9 = .pointer (some ⟨h, 0, none⟩) ∧ W.cell? ⟨g, 0, none⟩ = some (.int .i64 (stx bx hx hy l)) ∧ W.cell? ⟨g, 1, none⟩ = some (.int .i64 (sty bY hx hy l)) ∧ W.cell? ⟨g, 2, none⟩ = some (.int .i64 bx) ∧ W.cell? ⟨g, 3, none⟩ = some (.int .i64 bY) ∧ W.cell? ⟨h, 0, none⟩ = some (.int .i64 (stx cx ix iy m)) ∧ W.cell? ⟨h, 1, none⟩ = some (.int .i64 (sty cy ix iy m)) ∧ W.cell? ⟨h, 2, none⟩ = some (.int .i64 cx) ∧ W.cell? ⟨h, 3, none⟩ = some (.int .i64 cy) ∧ Below w.heap.size w W)
    case first =>
      have nz0 : ¬ w9.heap.size = w.heap.size := by omega
      have nz1 : ¬ w9.heap.size = w.heap.size + 1 := by omega
      have nz2 : ¬ w.heap.size = w9.heap.size := by omega
      have nz3 : ¬ w.heap.size + 1 = w9.heap.size := by omega
      have hk : ∃ wA : World, wA = w9 := ⟨_, rfl⟩
      obtain ⟨wA, rfl⟩ := hk
      have zd0 : w.heap.size < wA.drew.heap.size := z0
      have zd1 : w.heap.size + 1 < wA.drew.heap.size := z1
      have k1 : wA.cell? ⟨w.heap.size, 0, none⟩ = some (.int .i64 bx) := by go_simp
      have k2 : wA.cell? ⟨w.heap.size, 1, none⟩ = some (.int .i64 bY) := by go_simp
      have k3 : wA.cell? ⟨w.heap.size, 2, none⟩ = some (.int .i64 hx) := by go_simp
      have k4 : wA.cell? ⟨w.heap.size, 3, none⟩ = some (.int .i64 hy) := by go_simp
      have k5 : wA.cell? ⟨w.heap.size, 4, none⟩ = some (.int .i64 l) := by go_simp
      have k6 : wA.cell? ⟨w.heap.size + 1, 0, none⟩ = some (.int .i64 cx) := by go_simp
      have k7 : wA.cell? ⟨w.heap.size + 1, 1, none⟩ = some (.int .i64 cy) := by go_simp
      have k8 : wA.cell? ⟨w.heap.size + 1, 2, none⟩ = some (.int .i64 ix) := by go_simp
      have k9 : wA.cell? ⟨w.heap.size + 1, 3, none⟩ = some (.int .i64 iy) := by go_simp
      have k10 : wA.cell? ⟨w.heap.size + 1, 4, none⟩ = some (.int .i64 m) := by go_simp
      have kBA : Below w.heap.size w wA := (by repeat (first | with_reducible exact Below.refl _ _ | with_reducible assumption | with_reducible refine Below.drew ?_ | with_reducible refine below_drewN ?_ _ | with_reducible refine Below.setCell ?_ (by first | exact Nat.le_refl _ | (simp; done) | (simp; omega) | (dsimp only; omega)) _ | with_reducible refine Below.alloc ?_ (by first | exact Nat.le_refl _ | (simp; done) | (simp; omega) | (simp at *; omega)) _ | with_reducible refine bstep ?_ (by assumption)))
      clear hc hf
      refine wp_region_held_drew (S := fun W => Below wA.heap.size wA W) (by kernel_rfl) (Below.drew (Below.refl _ _)) (fun hHeld => ?_)
      refine wpAnyH_take (i := 0) (oi := ⟨some 19, _, _, _, _, _⟩) (v := ?_) rfl (by kernel_rfl) (by kernel_rfl) (by kernel_rfl) (fun _ _ _ h => h) (Or.inl ⟨by kernel_rfl, ?_⟩) (by assumption) ?_; rotate_left; focus (intro W0 hSw; have hcS := (bcell hSw).1; go_simp; (try with_reducible rfl)); (try simp only [Act.put, List.setIfInBounds_toArray, List.set_cons_zero, List.set_cons_succ])
      refine wpAnyH_take (i := 2) (oi := ⟨some 21, _, _, _, _, _⟩) (v := ?_) rfl (by kernel_rfl) (by kernel_rfl) (by kernel_rfl) (fun _ _ _ h => h) (Or.inl ⟨by kernel_rfl, ?_⟩) (by assumption) ?_; rotate_left; focus (intro W0 hSw; go_simp; (try with_reducible rfl)); (try simp only [Act.put, List.setIfInBounds_toArray, List.set_cons_zero, List.set_cons_succ])
      refine wpAnyH_take (i := 3) (oi := ⟨some 22, _, _, _, _, _⟩) (v := ?_) rfl (by kernel_rfl) (by kernel_rfl) (by kernel_rfl) (fun _ _ _ h => h) (Or.inl ⟨by kernel_rfl, ?_⟩) (by assumption) ?_; rotate_left; focus (intro W0 hSw; have hcS := (bcell hSw).1; go_simp; (try with_reducible rfl)); (try simp only [Act.put, List.setIfInBounds_toArray, List.set_cons_zero, List.set_cons_succ])
      refine wpAnyH_take (i := 5) (oi := ⟨some 24, _, _, _, _, _⟩) (v := ?_) rfl (by kernel_rfl) (by kernel_rfl) (by kernel_rfl) (fun _ _ _ h => h) (Or.inl ⟨by kernel_rfl, ?_⟩) (by assumption) ?_; rotate_left; focus (intro W0 hSw; have hcS := (bcell hSw).1; go_simp; (try with_reducible rfl)); (try simp only [Act.put, List.setIfInBounds_toArray, List.set_cons_zero, List.set_cons_succ])
      refine wpAnyH_take (i := 7) (oi := ⟨some 26, _, _, _, _, _⟩) (v := ?_) rfl (by kernel_rfl) (by kernel_rfl) (by kernel_rfl) (fun _ _ _ h => h) (Or.inl ⟨by kernel_rfl, ?_⟩) (by assumption) ?_; rotate_left; focus (intro W0 hSw; go_simp; (try with_reducible rfl)); (try simp only [Act.put, List.setIfInBounds_toArray, List.set_cons_zero, List.set_cons_succ])
      refine wpAnyH_take (i := 8) (oi := ⟨some 27, _, _, _, _, _⟩) (v := ?_) rfl (by kernel_rfl) (by kernel_rfl) (by kernel_rfl) (fun _ _ _ h => h) (Or.inl ⟨by kernel_rfl, ?_⟩) (by assumption) ?_; rotate_left; focus (intro W0 hSw; have hcS := (bcell hSw).1; go_simp; (try with_reducible rfl)); (try simp only [Act.put, List.setIfInBounds_toArray, List.set_cons_zero, List.set_cons_succ])
      refine wpAnyH_inv2 (fuel := 2) [1, 4, 6, 10, 11] [9] [20, 23, 25, 28, 8, 9] (fun uT L W => Below wA.heap.size wA W ∧ (L 1 → (uT 20) = (.agg #[.int .i64 (stx bx hx hy l), .int .i64 (sty bY hx hy l)])) ∧ (L 4 → (uT 23) = (.agg #[.int .i64 (stx bx hx hy l), .int .i64 (sty bY hx hy l), .int .i64 bx, .int .i64 bY])) ∧ (L 6 → (uT 25) = (.agg #[.int .i64 (stx cx ix iy m), .int .i64 (sty cy ix iy m)])) ∧ (L 9 → (uT 28) = (.agg #[.int .i64 (stx cx ix iy m), .int .i64 (sty cy ix iy m), .int .i64 cx, .int .i64 cy])) ∧ (L 10 → FBoxB wA 4 (uT 8) W) ∧ (L 11 → FBoxB wA 4 (uT 9) W) ∧ (L 10 → L 11 → uT 8 ≠ uT 9) ∧ True) (by decide) (by kernel_rfl) (by kernel_rfl) (fun _ _ _ _ _ h => h) (fun uT L W hJ => hJ.1) (fun uT L hL => ⟨hHeld, fun k => absurd k (hL 1 (by decide)), fun k => absurd k (hL 4 (by decide)), fun k => absurd k (hL 6 (by decide)), fun k => absurd k (hL 9 (by decide)), fun k => absurd k (hL 10 (by decide)), fun k => absurd k (hL 11 (by decide)), fun k _ => absurd k (hL 10 (by decide)), trivial⟩) ?_ ?_ ?_
      · refine StepsH.cons (d := 20) (o := ⟨some 20, _, _, _, _, _⟩) rfl rfl (by kernel_rfl) ?_ ?_
        rotate_left
        refine StepsH.cons (d := 23) (o := ⟨some 23, _, _, _, _, _⟩) rfl rfl (by kernel_rfl) ?_ ?_
        rotate_left
        refine StepsH.cons (d := 25) (o := ⟨some 25, _, _, _, _, _⟩) rfl rfl (by kernel_rfl) ?_ ?_
        rotate_left
        refine StepsH.cons (d := 8) (o := ⟨some 8, _, _, _, _, _⟩) rfl rfl (by kernel_rfl) ?_ ?_
        rotate_left
        refine StepsH.cons (d := 9) (o := ⟨some 9, _, _, _, _, _⟩) rfl rfl (by kernel_rfl) ?_ ?_
        rotate_left
        exact StepsH.nil
        · intro uT L W hn hd hJ
          obtain ⟨hk, f20, f23, f25, f28, f8, f9, n8_9, _⟩ := hJ
          intro K hK
          simp only [puts, Act.put, List.setIfInBounds_toArray, List.set_cons_zero, List.set_cons_succ]
          go_simp; (first | (go_at_call 79; (with_reducible refine (spec_l09Stern' _ _ _ _ _ g1 _).mono ?_); rintro e w9 ⟨rfl, hb⟩; have hzz := hb.size; (try simp at hzz); obtain ⟨hc, hf⟩ := bcell hb) | (go_at_call 79; (with_reducible refine (spec_l09Stern' _ _ _ _ _ g2 _).mono ?_); rintro e w9 ⟨rfl, hb⟩; have hzz := hb.size; (try simp at hzz); obtain ⟨hc, hf⟩ := bcell hb))
          all_goals (try go_wp2_with fail)
          all_goals
            apply Shut.go4 (W := W) hK
            · simp only [puts, Act.put, List.setIfInBounds_toArray, List.set_cons_zero, List.set_cons_succ]; rfl
            · first | with_reducible assumption | with_reducible exact Below.refl _ _ | exact Below.alloc (Below.refl _ _) (Nat.le_refl _) _
            · intro hb; exact ⟨bstep hk hb, fun _ => upd_same _ _ _, fun k => by rw [upd_ne uT _ (by decide)]; exact (f23 (k.resolve_left (by decide))), fun k => by rw [upd_ne uT _ (by decide)]; exact (f25 (k.resolve_left (by decide))), fun k => by rw [upd_ne uT _ (by decide)]; exact (f28 (k.resolve_left (by decide))), fun k => by rw [upd_ne uT _ (by decide)]; exact FBoxB.later hb (f8 (k.resolve_left (by decide))), fun k => by rw [upd_ne uT _ (by decide)]; exact FBoxB.later hb (f9 (k.resolve_left (by decide))), fun k k2 => by rw [upd_ne uT _ (by decide), upd_ne uT _ (by decide)]; exact n8_9 (k.resolve_left (by decide)) (k2.resolve_left (by decide)), trivial⟩
        · intro uT L W hn hd hJ
          obtain ⟨hk, f20, f23, f25, f28, f8, f9, n8_9, _⟩ := hJ
          obtain e20 := f20 (hd 1 (by kernel_rfl))
          intro K hK
          simp only [puts, Act.put, List.setIfInBounds_toArray, List.set_cons_zero, List.set_cons_succ, e20]
          go_simp
          all_goals (try go_wp2_with fail)
          all_goals
            apply Shut.go4 (W := W) hK
            · simp only [puts, Act.put, List.setIfInBounds_toArray, List.set_cons_zero, List.set_cons_succ, e20]; rfl
            · first | with_reducible assumption | with_reducible exact Below.refl _ _ | exact Below.alloc (Below.refl _ _) (Nat.le_refl _) _
            · intro hb; exact ⟨bstep hk hb, fun k => by rw [upd_ne uT _ (by decide)]; exact (f20 (k.resolve_left (by decide))), fun _ => upd_same _ _ _, fun k => by rw [upd_ne uT _ (by decide)]; exact (f25 (k.resolve_left (by decide))), fun k => by rw [upd_ne uT _ (by decide)]; exact (f28 (k.resolve_left (by decide))), fun k => by rw [upd_ne uT _ (by decide)]; exact FBoxB.later hb (f8 (k.resolve_left (by decide))), fun k => by rw [upd_ne uT _ (by decide)]; exact FBoxB.later hb (f9 (k.resolve_left (by decide))), fun k k2 => by rw [upd_ne uT _ (by decide), upd_ne uT _ (by decide)]; exact n8_9 (k.resolve_left (by decide)) (k2.resolve_left (by decide)), trivial⟩
        · intro uT L W hn hd hJ
          obtain ⟨hk, f20, f23, f25, f28, f8, f9, n8_9, _⟩ := hJ
          intro K hK
          simp only [puts, Act.put, List.setIfInBounds_toArray, List.set_cons_zero, List.set_cons_succ]
          go_simp; (first | (go_at_call 79; (with_reducible refine (spec_l09Stern' _ _ _ _ _ g1 _).mono ?_); rintro e w9 ⟨rfl, hb⟩; have hzz := hb.size; (try simp at hzz); obtain ⟨hc, hf⟩ := bcell hb) | (go_at_call 79; (with_reducible refine (spec_l09Stern' _ _ _ _ _ g2 _).mono ?_); rintro e w9 ⟨rfl, hb⟩; have hzz := hb.size; (try simp at hzz); obtain ⟨hc, hf⟩ := bcell hb))
          all_goals (try go_wp2_with fail)
          all_goals
            apply Shut.go4 (W := W) hK
            · simp only [puts, Act.put, List.setIfInBounds_toArray, List.set_cons_zero, List.set_cons_succ]; rfl
            · first | with_reducible assumption | with_reducible exact Below.refl _ _ | exact Below.alloc (Below.refl _ _) (Nat.le_refl _) _
            · intro hb; exact ⟨bstep hk hb, fun k => by rw [upd_ne uT _ (by decide)]; exact (f20 (k.resolve_left (by decide))), fun k => by rw [upd_ne uT _ (by decide)]; exact (f23 (k.resolve_left (by decide))), fun _ => upd_same _ _ _, fun k => by rw [upd_ne uT _ (by decide)]; exact (f28 (k.resolve_left (by decide))), fun k => by rw [upd_ne uT _ (by decide)]; exact FBoxB.later hb (f8 (k.resolve_left (by decide))), fun k => by rw [upd_ne uT _ (by decide)]; exact FBoxB.later hb (f9 (k.resolve_left (by decide))), fun k k2 => by rw [upd_ne uT _ (by decide), upd_ne uT _ (by decide)]; exact n8_9 (k.resolve_left (by decide)) (k2.resolve_left (by decide)), trivial⟩
        · intro uT L W hn hd hJ
          obtain ⟨hk, f20, f23, f25, f28, f8, f9, n8_9, _⟩ := hJ
          intro K hK
          simp only [puts, Act.put, List.setIfInBounds_toArray, List.set_cons_zero, List.set_cons_succ]
          go_simp
          all_goals (try go_wp2_with fail)
          all_goals
            apply Shut.go4 (W := W) hK
            · simp only [puts, Act.put, List.setIfInBounds_toArray, List.set_cons_zero, List.set_cons_succ]; rfl
            · first | with_reducible assumption | with_reducible exact Below.refl _ _ | exact Below.alloc (Below.refl _ _) (Nat.le_refl _) _
            · intro hb; exact ⟨bstep hk hb, fun k => by rw [upd_ne uT _ (by decide)]; exact (f20 (k.resolve_left (by decide))), fun k => by rw [upd_ne uT _ (by decide)]; exact (f23 (k.resolve_left (by decide))), fun k => by rw [upd_ne uT _ (by decide)]; exact (f25 (k.resolve_left (by decide))), fun k => by rw [upd_ne uT _ (by decide)]; exact (f28 (k.resolve_left (by decide))), fun _ => by rw [upd_same]; exact FBoxB.new (Below.size hk) _ _ (by rfl), fun k => by rw [upd_ne uT _ (by decide)]; exact FBoxB.later hb (f9 (k.resolve_left (by decide))), fun _ k => by rw [upd_same, upd_ne uT _ (by decide)]; exact FBoxB.ne_new (f9 (k.resolve_left (by decide))), trivial⟩
        · intro uT L W hn hd hJ
          obtain ⟨hk, f20, f23, f25, f28, f8, f9, n8_9, _⟩ := hJ
          intro K hK
          simp only [puts, Act.put, List.setIfInBounds_toArray, List.set_cons_zero, List.set_cons_succ]
          go_simp
          all_goals (try go_wp2_with fail)
          all_goals
            apply Shut.go4 (W := W) hK
            · simp only [puts, Act.put, List.setIfInBounds_toArray, List.set_cons_zero, List.set_cons_succ]; rfl
            · first | with_reducible assumption | with_reducible exact Below.refl _ _ | exact Below.alloc (Below.refl _ _) (Nat.le_refl _) _
            · intro hb; exact ⟨bstep hk hb, fun k => by rw [upd_ne uT _ (by decide)]; exact (f20 (k.resolve_left (by decide))), fun k => by rw [upd_ne uT _ (by decide)]; exact (f23 (k.resolve_left (by decide))), fun k => by rw [upd_ne uT _ (by decide)]; exact (f25 (k.resolve_left (by decide))), fun k => by rw [upd_ne uT _ (by decide)]; exact (f28 (k.resolve_left (by decide))), fun k => by rw [upd_ne uT _ (by decide)]; exact FBoxB.later hb (f8 (k.resolve_left (by decide))), fun _ => by rw [upd_same]; exact FBoxB.new (Below.size hk) _ _ (by rfl), fun k _ => by rw [upd_same, upd_ne uT _ (by decide)]; exact (FBoxB.ne_new (f8 (k.resolve_left (by decide)))).symm, trivial⟩
      · refine PuresH.cons (d := 28) (o := ⟨some 28, _, _, _, _, _⟩) rfl rfl (by kernel_rfl) (by kernel_rfl) ?_ ?_
        rotate_left
        exact PuresH.nil
        · intro uT L W hn hd hJ
          obtain ⟨hk, f20, f23, f25, f28, f8, f9, n8_9, _⟩ := hJ
          obtain e25 := f25 (hd 6 (by kernel_rfl))
          simp only [puts, Act.put, List.setIfInBounds_toArray, List.set_cons_zero, List.set_cons_succ, e25]
          refine ⟨?_, Or.inl ⟨by kernel_rfl, ?_⟩, ?_⟩; rotate_left; focus (intro W0 hSw; go_simp; (try with_reducible rfl))
          exact ⟨hk, fun k => by rw [upd_ne uT _ (by decide)]; exact (f20 (k.resolve_left (by decide))), fun k => by rw [upd_ne uT _ (by decide)]; exact (f23 (k.resolve_left (by decide))), fun k => by rw [upd_ne uT _ (by decide)]; exact (f25 (k.resolve_left (by decide))), fun _ => upd_same _ _ _, fun k => by rw [upd_ne uT _ (by decide)]; exact (f8 (k.resolve_left (by decide))), fun k => by rw [upd_ne uT _ (by decide)]; exact (f9 (k.resolve_left (by decide))), fun k k2 => by rw [upd_ne uT _ (by decide), upd_ne uT _ (by decide)]; exact n8_9 (k.resolve_left (by decide)) (k2.resolve_left (by decide)), trivial⟩
      · intro uT L W hJ hL
        obtain ⟨hk, f20, f23, f25, f28, f8, f9, n8_9, _⟩ := hJ
        obtain e20 := f20 (hL 1 (by kernel_rfl))
        obtain e23 := f23 (hL 4 (by kernel_rfl))
        obtain e25 := f25 (hL 6 (by kernel_rfl))
        obtain e28 := f28 (hL 9 (by kernel_rfl))
        obtain ⟨b8, e8, bb8, lb8, cb8⟩ := f8 (hL 10 (by kernel_rfl))
        obtain ⟨b9, e9, bb9, lb9, cb9⟩ := f9 (hL 11 (by kernel_rfl))
        have hne := n8_9 (hL 10 (by kernel_rfl)) (hL 11 (by kernel_rfl)); rw [e8, e9] at hne; simp at hne; have hne2 := Ne.symm hne
        clear hHeld; have hcW := (bcell hk).1; have hfW := (bcell hk).2; have lW := Below.size hk; have hHeld := hk
        clear f20
        clear f23
        clear f25
        clear f28
        clear f8
        clear f9
        clear n8_9
        simp only [puts, Act.put, List.setIfInBounds_toArray, List.set_cons_zero, List.set_cons_succ, setAll, Array.replicate, e20, e23, e25, e28, e8, e9]
        obtain ⟨⟨y8_0, cy8_0⟩, fy8_0⟩ := cb8 0 (by decide)
        obtain ⟨⟨y8_1, cy8_1⟩, fy8_1⟩ := cb8 1 (by decide)
        obtain ⟨⟨y8_2, cy8_2⟩, fy8_2⟩ := cb8 2 (by decide)
        obtain ⟨⟨y8_3, cy8_3⟩, fy8_3⟩ := cb8 3 (by decide)
        obtain ⟨⟨y9_0, cy9_0⟩, fy9_0⟩ := cb9 0 (by decide)
        obtain ⟨⟨y9_1, cy9_1⟩, fy9_1⟩ := cb9 1 (by decide)
        obtain ⟨⟨y9_2, cy9_2⟩, fy9_2⟩ := cb9 2 (by decide)
        obtain ⟨⟨y9_3, cy9_3⟩, fy9_3⟩ := cb9 3 (by decide)
        refine wpAnyH_ready (rs := [12]) (by kernel_rfl) (by simp) ?_; refine (AllReadyH.cons (o := ⟨none, _, _, _, _, _⟩) rfl (fun K hK => ?_) AllReadyH.nil)
        go_simp
        all_goals (try go_wp2_with fail)
        refine hK.out _ _ ?_ (fun hH2 => ?_)
        · exact (by repeat (first | with_reducible exact Below.refl _ _ | with_reducible assumption | with_reducible refine Below.drew ?_ | with_reducible refine below_drewN ?_ _ | with_reducible refine Below.setCell ?_ (by first | exact Nat.le_refl _ | (simp; done) | (simp; omega) | (dsimp only; omega)) _ | with_reducible refine Below.alloc ?_ (by first | exact Nat.le_refl _ | (simp; done) | (simp; omega) | (simp at *; omega)) _ | with_reducible refine bstep ?_ (by assumption)))
        clear hK K hHeld; (have hHeld := hH2); clear hH2; (try simp only [Act.put])
        refine wpAnyH_ready (rs := [13]) (by kernel_rfl) (by simp) ?_; refine (AllReadyH.cons (o := ⟨none, _, _, _, _, _⟩) rfl (fun K hK => ?_) AllReadyH.nil)
        go_simp
        all_goals (try go_wp2_with fail)
        refine hK.out _ _ ?_ (fun hH2 => ?_)
        · exact (by repeat (first | with_reducible exact Below.refl _ _ | with_reducible assumption | with_reducible refine Below.drew ?_ | with_reducible refine below_drewN ?_ _ | with_reducible refine Below.setCell ?_ (by first | exact Nat.le_refl _ | (simp; done) | (simp; omega) | (dsimp only; omega)) _ | with_reducible refine Below.alloc ?_ (by first | exact Nat.le_refl _ | (simp; done) | (simp; omega) | (simp at *; omega)) _ | with_reducible refine bstep ?_ (by assumption)))
        clear hK K hHeld; (have hHeld := hH2); clear hH2; (try simp only [Act.put])
        refine wpAnyH_done (by kernel_rfl) ?_ _; (try simp only [Act.put, List.setIfInBounds_toArray, List.set_cons_zero, List.set_cons_succ])
        go_wp2_with fail
        go_meet
        exact ⟨_, _, rfl, rfl, (by (repeat with_reducible refine cell_off ?_ (by first | (right; dsimp only; omega) | (left; dsimp only; omega) | (left; simp; omega))); with_reducible refine cell_same_ex ?_; (repeat with_reducible refine cell_off_ex ?_ (by first | (right; dsimp only; omega) | (left; dsimp only; omega) | (left; simp; omega))); exact ⟨_, by assumption⟩), (by (repeat with_reducible refine cell_off ?_ (by first | (right; dsimp only; omega) | (left; dsimp only; omega) | (left; simp; omega))); with_reducible refine cell_same_ex ?_; (repeat with_reducible refine cell_off_ex ?_ (by first | (right; dsimp only; omega) | (left; dsimp only; omega) | (left; simp; omega))); exact ⟨_, by assumption⟩), (by (repeat with_reducible refine cell_off ?_ (by first | (right; dsimp only; omega) | (left; dsimp only; omega) | (left; simp; omega))); with_reducible refine cell_same_ex ?_; (repeat with_reducible refine cell_off_ex ?_ (by first | (right; dsimp only; omega) | (left; dsimp only; omega) | (left; simp; omega))); exact ⟨_, by assumption⟩), (by (repeat with_reducible refine cell_off ?_ (by first | (right; dsimp only; omega) | (left; dsimp only; omega) | (left; simp; omega))); with_reducible refine cell_same_ex ?_; (repeat with_reducible refine cell_off_ex ?_ (by first | (right; dsimp only; omega) | (left; dsimp only; omega) | (left; simp; omega))); exact ⟨_, by assumption⟩), (by (repeat with_reducible refine cell_off ?_ (by first | (right; dsimp only; omega) | (left; dsimp only; omega) | (left; simp; omega))); with_reducible refine cell_same_ex ?_; (repeat with_reducible refine cell_off_ex ?_ (by first | (right; dsimp only; omega) | (left; dsimp only; omega) | (left; simp; omega))); exact ⟨_, by assumption⟩), (by (repeat with_reducible refine cell_off ?_ (by first | (right; dsimp only; omega) | (left; dsimp only; omega) | (left; simp; omega))); with_reducible refine cell_same_ex ?_; (repeat with_reducible refine cell_off_ex ?_ (by first | (right; dsimp only; omega) | (left; dsimp only; omega) | (left; simp; omega))); exact ⟨_, by assumption⟩), (by (repeat with_reducible refine cell_off ?_ (by first | (right; dsimp only; omega) | (left; dsimp only; omega) | (left; simp; omega))); with_reducible refine cell_same_ex ?_; (repeat with_reducible refine cell_off_ex ?_ (by first | (right; dsimp only; omega) | (left; dsimp only; omega) | (left; simp; omega))); exact ⟨_, by assumption⟩), (by (repeat with_reducible refine cell_off ?_ (by first | (right; dsimp only; omega) | (left; dsimp only; omega) | (left; simp; omega))); with_reducible refine cell_same_ex ?_; (repeat with_reducible refine cell_off_ex ?_ (by first | (right; dsimp only; omega) | (left; dsimp only; omega) | (left; simp; omega))); exact ⟨_, by assumption⟩), bstep2 kBA hHeld⟩
    case rest =>
      obtain ⟨g, h, rfl, rfl, q1, q2, q3, q4, q5, q6, q7, q8, rB⟩ := hcut
      have kg := World.block_lt_of_cell? _ _ q1
      have kh := World.block_lt_of_cell? _ _ q5
      simp only at kg kh
      have Hn := hide (nearB.eq_1 (stx bx hx hy l) (sty bY hx hy l) bx bY (stx cx ix iy m) (sty cy ix iy m) cx cy d)
      rcases b4 (inB d 0 10000) (isSg (stx bx hx hy l) (sty bY hx hy l) bx bY) (isSg (stx cx ix iy m) (sty cy ix iy m) cx cy) with g3 | ⟨g3, g4⟩ | ⟨g3, g4, g5⟩ | ⟨g3, g4, g5⟩
      · go_wp2_with (first | (go_at_call 85; (with_reducible refine (spec_l01In _ _ _ _).mono ?_); rintro e w9 ⟨rfl, rfl⟩) | (go_at_call 86; (with_reducible refine (spec_IsSegment _ _ _ _ _).mono ?_); rintro e w9 ⟨rfl, hb⟩; obtain ⟨hc, hf⟩ := bcell hb; have hz := hb.size; have zzg : g < w9.heap.size := (by first | omega | (simp at hz; omega)); have zzh : h < w9.heap.size := (by first | omega | (simp at hz; omega))))
        go_ret2
        exact ⟨by simp [sel, selB, g1, g2, g3], (by repeat (first | with_reducible exact Below.refl _ _ | with_reducible assumption | with_reducible refine Below.drew ?_ | with_reducible refine below_drewN ?_ _ | with_reducible refine Below.setCell ?_ (by first | exact Nat.le_refl _ | (simp; done) | (simp; omega) | (dsimp only; omega)) _ | with_reducible refine Below.alloc ?_ (by first | exact Nat.le_refl _ | (simp; done) | (simp; omega) | (simp at *; omega)) _ | with_reducible refine bstep ?_ (by assumption)))⟩
      · go_wp2_with (first | (go_at_call 85; (with_reducible refine (spec_l01In _ _ _ _).mono ?_); rintro e w9 ⟨rfl, rfl⟩) | (go_at_call 86; (with_reducible refine (spec_IsSegment _ _ _ _ _).mono ?_); rintro e w9 ⟨rfl, hb⟩; obtain ⟨hc, hf⟩ := bcell hb; have hz := hb.size; have zzg : g < w9.heap.size := (by first | omega | (simp at hz; omega)); have zzh : h < w9.heap.size := (by first | omega | (simp at hz; omega))))
        go_ret2
        exact ⟨by simp [sel, selB, g1, g2, g3, g4], (by repeat (first | with_reducible exact Below.refl _ _ | with_reducible assumption | with_reducible refine Below.drew ?_ | with_reducible refine below_drewN ?_ _ | with_reducible refine Below.setCell ?_ (by first | exact Nat.le_refl _ | (simp; done) | (simp; omega) | (dsimp only; omega)) _ | with_reducible refine Below.alloc ?_ (by first | exact Nat.le_refl _ | (simp; done) | (simp; omega) | (simp at *; omega)) _ | with_reducible refine bstep ?_ (by assumption)))⟩
      · go_wp2_with (first | (go_at_call 85; (with_reducible refine (spec_l01In _ _ _ _).mono ?_); rintro e w9 ⟨rfl, rfl⟩) | (go_at_call 86; (with_reducible refine (spec_IsSegment _ _ _ _ _).mono ?_); rintro e w9 ⟨rfl, hb⟩; obtain ⟨hc, hf⟩ := bcell hb; have hz := hb.size; have zzg : g < w9.heap.size := (by first | omega | (simp at hz; omega)); have zzh : h < w9.heap.size := (by first | omega | (simp at hz; omega))))
        go_ret2
        exact ⟨by simp [sel, selB, g1, g2, g3, g4, g5], (by repeat (first | with_reducible exact Below.refl _ _ | with_reducible assumption | with_reducible refine Below.drew ?_ | with_reducible refine below_drewN ?_ _ | with_reducible refine Below.setCell ?_ (by first | exact Nat.le_refl _ | (simp; done) | (simp; omega) | (dsimp only; omega)) _ | with_reducible refine Below.alloc ?_ (by first | exact Nat.le_refl _ | (simp; done) | (simp; omega) | (simp at *; omega)) _ | with_reducible refine bstep ?_ (by assumption)))⟩
      · have y1 := (isSg_t g4).1
        have y2 := (isSg_t g4).2.1
        have y3 := (isSg_t g5).1
        have y4 := (isSg_t g5).2.1
        go_wp2_with (first | (go_at_call 85; (with_reducible refine (spec_l01In _ _ _ _).mono ?_); rintro e w9 ⟨rfl, rfl⟩) | (go_at_call 86; (with_reducible refine (spec_IsSegment _ _ _ _ _).mono ?_); rintro e w9 ⟨rfl, hb⟩; obtain ⟨hc, hf⟩ := bcell hb; have hz := hb.size; have zzg : g < w9.heap.size := (by first | omega | (simp at hz; omega)); have zzh : h < w9.heap.size := (by first | omega | (simp at hz; omega))) | (go_at_call 87; (with_reducible refine (spec_l02Meet _ _ _ _ _ _ _ _ g4 g5 _).mono ?_); rintro e w9 ⟨rfl, hb⟩; obtain ⟨hc, hf⟩ := bcell hb; have hz := hb.size; have zzg : g < w9.heap.size := (by first | omega | (simp at hz; omega)); have zzh : h < w9.heap.size := (by first | omega | (simp at hz; omega))) | (go_at_call 88; (with_reducible refine (spec_l02Within _ _ _ _ (stx cx ix iy m) (sty cy ix iy m) _ g4 y3 g3 _).mono ?_); rintro e w9 ⟨rfl, hb⟩; obtain ⟨hc, hf⟩ := bcell hb; have hz := hb.size; have zzg : g < w9.heap.size := (by first | omega | (simp at hz; omega)); have zzh : h < w9.heap.size := (by first | omega | (simp at hz; omega))) | (go_at_call 88; (with_reducible refine (spec_l02Within _ _ _ _ cx cy _ g4 y4 g3 _).mono ?_); rintro e w9 ⟨rfl, hb⟩; obtain ⟨hc, hf⟩ := bcell hb; have hz := hb.size; have zzg : g < w9.heap.size := (by first | omega | (simp at hz; omega)); have zzh : h < w9.heap.size := (by first | omega | (simp at hz; omega))) | (go_at_call 88; (with_reducible refine (spec_l02Within _ _ _ _ (stx bx hx hy l) (sty bY hx hy l) _ g5 y1 g3 _).mono ?_); rintro e w9 ⟨rfl, hb⟩; obtain ⟨hc, hf⟩ := bcell hb; have hz := hb.size; have zzg : g < w9.heap.size := (by first | omega | (simp at hz; omega)); have zzh : h < w9.heap.size := (by first | omega | (simp at hz; omega))) | (go_at_call 88; (with_reducible refine (spec_l02Within _ _ _ _ bx bY _ g5 y2 g3 _).mono ?_); rintro e w9 ⟨rfl, hb⟩; obtain ⟨hc, hf⟩ := bcell hb; have hz := hb.size; have zzg : g < w9.heap.size := (by first | omega | (simp at hz; omega)); have zzh : h < w9.heap.size := (by first | omega | (simp at hz; omega))))
        all_goals
          go_ret2
          exact ⟨by rw [Hn.out]; simp [sel, selB, *], (by repeat (first | with_reducible exact Below.refl _ _ | with_reducible assumption | with_reducible refine Below.drew ?_ | with_reducible refine below_drewN ?_ _ | with_reducible refine Below.setCell ?_ (by first | exact Nat.le_refl _ | (simp; done) | (simp; omega) | (dsimp only; omega)) _ | with_reducible refine Below.alloc ?_ (by first | exact Nat.le_refl _ | (simp; done) | (simp; omega) | (simp at *; omega)) _ | with_reducible refine bstep ?_ (by assumption)))⟩
end Go.Proofs.Ytkhapajjbomknaa
