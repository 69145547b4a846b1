/- Walks: the nearest point of a leg, the reference's. -/
import Derived.Test.YtlllfklehbjneaaDoorGe
namespace Go.Proofs.YtlllfklehbjneaaDoor
open Go.RowKit

/-- The nearest point of a leg to a point. -/
def nrP (x y : Int) (U V : Nat → Int) (l : Nat) : Int × Int :=
  if (U l == U (l + 1) && V l == V (l + 1)) = true then (U l, V l)
  else (posI (U l) (U (l + 1)) (npG (U l) (V l) (U (l + 1)) (V (l + 1)) x y) (npM (U l) (V l) (U (l + 1)) (V (l + 1)) x y), posI (V l) (V (l + 1)) (npG (U l) (V l) (U (l + 1)) (V (l + 1)) x y) (npM (U l) (V l) (U (l + 1)) (V (l + 1)) x y))
theorem nrP_eq {x y : Int} {U V : Nat → Int} {l : Nat} (h : (U l == U (l + 1) && V l == V (l + 1)) = true) : nrP x y U V l = (U l, V l) := by unfold nrP; rw [if_pos h]
theorem nrP_ne {x y : Int} {U V : Nat → Int} {l : Nat} (h : (U l == U (l + 1) && V l == V (l + 1)) = false) : nrP x y U V l = (posI (U l) (U (l + 1)) (npG (U l) (V l) (U (l + 1)) (V (l + 1)) x y) (npM (U l) (V l) (U (l + 1)) (V (l + 1)) x y), posI (V l) (V (l + 1)) (npG (U l) (V l) (U (l + 1)) (V (l + 1)) x y) (npM (U l) (V l) (U (l + 1)) (V (l + 1)) x y)) := by
  unfold nrP; rw [if_neg (by rw [h]; decide)]
theorem nrP_pt {x y : Int} {n l : Nat} {T U V : Nat → Int} (hv : isTr n T U V = true) (hl : l + 1 < n) : isPt (nrP x y U V l).1 (nrP x y U V l).2 = true := by
  obtain ⟨_, _, _, p0, p1⟩ := isTr_leg hv hl
  rcases b2 (U l == U (l + 1) && V l == V (l + 1)) with h | h
  · rw [nrP_ne h]
    obtain ⟨f1, f2, f3, f4⟩ := np_facts x y (isSg_of p0 p1 h)
    obtain ⟨x1, x2, x3, x4⟩ := isPt_t p0
    obtain ⟨y1, y2, y3, y4⟩ := isPt_t p1
    have a := posI_bd x1 x2 y1 y2 f1 f2 (by omega)
    have b := posI_bd x3 x4 y3 y4 f1 f2 (by omega)
    unfold isPt inB
    rw [decide_eq_true a, decide_eq_true b]
    rfl
  · rw [nrP_eq h]; exact p0
set_option maxRecDepth 100000 in
set_option maxHeartbeats 8000000 in
theorem spec_l07Near (x y : Int) (b o n cap l : Nat) (T U V : Nat → Int) (w : World) (h : RowAt w (some ⟨b, o, none⟩) n 3 (v3 T U V)) (hv : isTr n T U V = true) (hl : l + 1 < n) (hp : isPt x y = true) :
    Calls Tryd.prog 54 #[.agg #[.slice (some ⟨b, o, none⟩) n cap], .int .i64 l, .agg #[.int .i64 x, .int .i64 y]] w fun e w' => e = .returned (.agg #[.int .i64 (nrP x y U V l).1, .int .i64 (nrP x y U V l).2]) ∧ Below w.heap.size w w' := by
  obtain ⟨hn2, hn40, _⟩ := isTr_t hv
  obtain ⟨_, _, _, p0, p1⟩ := isTr_leg hv hl
  have hbs := World.block_lt_of_cell? _ _ (h.on3 0 (by omega)).1
  simp only at hbs
  obtain ⟨c0, c1, c2⟩ := h.on3 l (by omega)
  obtain ⟨d0, d1, d2⟩ := h.on3 (l + 1) hl
  have hj1 : (0 : Int) ≤ (l : Int) := by omega
  have hj2 : (l : Int) < (n : Int) := by omega
  have hj3 : (l : Int) + 1 < (n : Int) := by omega
  have hj4 : (0 : Int) ≤ (l : Int) + 1 := by omega
  have we : IntKind.i64.wrap ((l : Int) + 1) = (l : Int) + 1 := IntWalk.i64_in _ (by omega)
  have He := hide (fun (hh : (U l == U (l + 1) && V l == V (l + 1)) = true) => nrP_eq (x := x) (y := y) hh)
  have Hn := hide (fun (hh : (U l == U (l + 1) && V l == V (l + 1)) = false) => nrP_ne (x := x) (y := y) hh)
  have KN := hide (fun (hh : (U l == U (l + 1) && V l == V (l + 1)) = false) W => spec_l02Nearest (U l) (V l) (U (l + 1)) (V (l + 1)) x y (isSg_of p0 p1 hh) hp W)
  have HF := hide (fun (hh : (U l == U (l + 1) && V l == V (l + 1)) = false) => np_facts x y (isSg_of p0 p1 hh))
  obtain ⟨x1, x2, x3, x4⟩ := isPt_t p0
  obtain ⟨y1, y2, y3, y4⟩ := isPt_t p1
  generalize nrP x y U V l = P9 at *
  generalize npG (U l) (V l) (U (l + 1)) (V (l + 1)) x y = g9 at *
  generalize npM (U l) (V l) (U (l + 1)) (V (l + 1)) x y = m9 at *
  clear hp p0 p1 h hv
  obtain ⟨a1, j1⟩ : ∃ a, a = U l := ⟨_, rfl⟩
  obtain ⟨a2, j2⟩ : ∃ a, a = V l := ⟨_, rfl⟩
  obtain ⟨a3, j3⟩ : ∃ a, a = U (l + 1) := ⟨_, rfl⟩
  obtain ⟨a4, j4⟩ : ∃ a, a = V (l + 1) := ⟨_, rfl⟩
  rw [← j1] at c1 He Hn KN HF x1 x2
  rw [← j2] at c2 He Hn KN HF x3 x4
  rw [← j3] at d1 He Hn KN HF y1 y2
  rw [← j4] at d2 He Hn KN HF y3 y4
  clear j1 j2 j3 j4
  have nbb0 : ¬ b = w.heap.size := (by omega); have ncb0 : ¬ w.heap.size = b := (by omega); have ndb0 : b < w.heap.size := (by omega); have nbb1 : ¬ b = w.heap.size + 1 := (by omega); have ncb1 : ¬ w.heap.size + 1 = b := (by omega); have ndb1 : b < w.heap.size + 1 := (by omega); have nbb2 : ¬ b = w.heap.size + 1 + 1 := (by omega); have ncb2 : ¬ w.heap.size + 1 + 1 = b := (by omega); have ndb2 : b < w.heap.size + 1 + 1 := (by omega); have nbb3 : ¬ b = w.heap.size + 1 + 1 + 1 := (by omega); have ncb3 : ¬ w.heap.size + 1 + 1 + 1 = b := (by omega); have ndb3 : b < w.heap.size + 1 + 1 + 1 := (by omega); have nbb4 : ¬ b = w.heap.size + 1 + 1 + 1 + 1 := (by omega); have ncb4 : ¬ w.heap.size + 1 + 1 + 1 + 1 = b := (by omega); have ndb4 : b < w.heap.size + 1 + 1 + 1 + 1 := (by omega)
  go_enter Tryd.func54, Tryd.ntmps54
  go_upto_region 1 with fail
  obtain ⟨w1, hw1⟩ : ∃ W, W = (w.alloc (.cells #[.slice (some ⟨b, o, none⟩) n cap] 45)).alloc (.cells #[.int .i64 x, .int .i64 y] 36) := ⟨_, rfl⟩
  have m1 : w1.cell? ⟨w.heap.size + 1, 0, none⟩ = some (.int .i64 x) := by rw [hw1]; go_simp
  have m2 : w1.cell? ⟨w.heap.size + 1, 1, none⟩ = some (.int .i64 y) := by rw [hw1]; go_simp
  have m5 : w1.cell? ⟨w.heap.size, 0, none⟩ = some (.slice (some ⟨b, o, none⟩) n cap) := by rw [hw1]; go_simp
  have i1 : w1.cell? ⟨b, o + l * 3, none⟩ = some (.int .i64 (T l)) := by rw [hw1]; go_simp
  have i2 : w1.cell? ⟨b, o + l * 3 + 1, none⟩ = some (.int .i64 a1) := by rw [hw1]; go_simp
  have i3 : w1.cell? ⟨b, o + l * 3 + 2, none⟩ = some (.int .i64 a2) := by rw [hw1]; go_simp
  have i4 : w1.cell? ⟨b, o + (l + 1) * 3, none⟩ = some (.int .i64 (T (l + 1))) := by rw [hw1]; go_simp
  have i5 : w1.cell? ⟨b, o + (l + 1) * 3 + 1, none⟩ = some (.int .i64 a3) := by rw [hw1]; go_simp
  have i6 : w1.cell? ⟨b, o + (l + 1) * 3 + 2, none⟩ = some (.int .i64 a4) := by rw [hw1]; go_simp
  have HW1 := hide (show Below w.heap.size w w1 by rw [hw1]; exact (by repeat (first | with_reducible exact Below.refl _ _ | with_reducible assumption | with_reducible refine Below.drew ?_ | with_reducible refine below_drewN ?_ _ | with_reducible refine Below.setCell ?_ (by first | exact Nat.le_refl _ | (simp; done) | (simp; omega) | (dsimp only; omega)) _ | with_reducible refine Below.alloc ?_ (by first | exact Nat.le_refl _ | (simp; done) | (simp; omega) | (simp at *; omega)) _ | with_reducible refine bstep ?_ (by assumption))))
  have hs1 : w.heap.size + 1 + 1 = w1.heap.size := by rw [hw1]; simp
  rw [← hw1, hs1]
  clear hw1 c0 c1 c2 d0 d1 d2
  have z1 : w.heap.size + 1 < w1.heap.size := by omega
  have z0 : w.heap.size < w1.heap.size := by omega
  have zb : b < w1.heap.size := by omega
  clear hs1
  go_cut [7, 8] (fun s7 s8 W => ∃ g h : Nat, s7 = .pointer (some ⟨g, 0, none⟩) ∧ s8 = .pointer (some ⟨h, 0, none⟩) ∧ W.cell? ⟨g, 0, none⟩ = some (.int .i64 a1) ∧ W.cell? ⟨g, 1, none⟩ = some (.int .i64 a2) ∧ W.cell? ⟨h, 0, none⟩ = some (.int .i64 a3) ∧ W.cell? ⟨h, 1, none⟩ = some (.int .i64 a4) ∧ W.cell? ⟨w1.heap.size, 0, none⟩ = some (.int .i64 0) ∧ W.cell? ⟨w1.heap.size, 1, none⟩ = some (.int .i64 0) ∧ W.frozen? ⟨w1.heap.size, 0, none⟩ = false ∧ W.frozen? ⟨w1.heap.size, 1, none⟩ = false ∧ w1.heap.size < g ∧ w1.heap.size < h ∧ Below w1.heap.size w1 W)
  case first =>
    obtain ⟨wB, hB⟩ : ∃ W, W = w1.alloc (.cells #[.int .i64 0, .int .i64 0] 36) := ⟨_, rfl⟩
    have x1' : wB.cell? ⟨b, o + l * 3, none⟩ = some (.int .i64 (T l)) := by rw [hB]; exact cell_alloc i1
    have x2' : wB.cell? ⟨b, o + l * 3 + 1, none⟩ = some (.int .i64 a1) := by rw [hB]; exact cell_alloc i2
    have x3' : wB.cell? ⟨b, o + l * 3 + 2, none⟩ = some (.int .i64 a2) := by rw [hB]; exact cell_alloc i3
    have x4' : wB.cell? ⟨b, o + (l + 1) * 3, none⟩ = some (.int .i64 (T (l + 1))) := by rw [hB]; exact cell_alloc i4
    have x5' : wB.cell? ⟨b, o + (l + 1) * 3 + 1, none⟩ = some (.int .i64 a3) := by rw [hB]; exact cell_alloc i5
    have x6' : wB.cell? ⟨b, o + (l + 1) * 3 + 2, none⟩ = some (.int .i64 a4) := by rw [hB]; exact cell_alloc i6
    have t5 : wB.cell? ⟨w.heap.size, 0, none⟩ = some (.slice (some ⟨b, o, none⟩) n cap) := by rw [hB]; exact cell_alloc m5
    have t6 : wB.cell? ⟨w1.heap.size, 0, none⟩ = some (.int .i64 0) := by rw [hB]; go_simp
    have t7 : wB.cell? ⟨w1.heap.size, 1, none⟩ = some (.int .i64 0) := by rw [hB]; go_simp
    have t8 : wB.frozen? ⟨w1.heap.size, 0, none⟩ = false := by rw [hB]; go_simp
    have t9 : wB.frozen? ⟨w1.heap.size, 1, none⟩ = false := by rw [hB]; go_simp
    have HBB := hide (show Below w1.heap.size w1 wB by rw [hB]; exact Below.alloc (Below.refl _ _) (Nat.le_refl _) _)
    have zB : w1.heap.size < wB.heap.size := by rw [hB]; simp
    have zB0 : w.heap.size < wB.heap.size := by omega
    have zBb : b < wB.heap.size := by omega
    rw [← hB]
    clear hB i1 i2 i3 i4 i5 i6 m5
    refine wp_region_held_drew (S := fun W => Below wB.heap.size wB W) (by kernel_rfl) (Below.drew (Below.refl _ _)) (fun hHeld => ?_)
    refine wpAnyH_take (i := 0) (oi := ⟨some 10, _, _, _, _, _⟩) (v := ?_) rfl (by kernel_rfl) (by kernel_rfl) (by kernel_rfl) (fun _ _ _ h => h) (Or.inl ⟨by kernel_rfl, ?_⟩) (by assumption) ?_; rotate_left; focus (intro W0 hSw; go_simp; (try with_reducible rfl)); (try simp only [Act.put, List.setIfInBounds_toArray, List.set_cons_zero, List.set_cons_succ])
    refine wpAnyH_take (i := 1) (oi := ⟨some 11, _, _, _, _, _⟩) (v := ?_) rfl (by kernel_rfl) (by kernel_rfl) (by kernel_rfl) (fun _ _ _ h => h) (Or.inl ⟨by kernel_rfl, ?_⟩) (by assumption) ?_; rotate_left; focus (intro W0 hSw; have hcS := (bcell hSw).1; go_simp; (try with_reducible rfl)); (try simp only [Act.put, List.setIfInBounds_toArray, List.set_cons_zero, List.set_cons_succ])
    refine wpAnyH_take (i := 2) (oi := ⟨some 12, _, _, _, _, _⟩) (v := ?_) rfl (by kernel_rfl) (by kernel_rfl) (by kernel_rfl) (fun _ _ _ h => h) (Or.inl ⟨by kernel_rfl, ?_⟩) (by assumption) ?_; rotate_left; focus (intro W0 hSw; go_simp; (try with_reducible rfl)); (try simp only [Act.put, List.setIfInBounds_toArray, List.set_cons_zero, List.set_cons_succ])
    refine wpAnyH_take (i := 3) (oi := ⟨some 13, _, _, _, _, _⟩) (v := ?_) rfl (by kernel_rfl) (by kernel_rfl) (by kernel_rfl) (fun _ _ _ h => h) (Or.inl ⟨by kernel_rfl, ?_⟩) (by assumption) ?_; rotate_left; focus (intro W0 hSw; go_simp; (try with_reducible rfl)); (try simp only [Act.put, List.setIfInBounds_toArray, List.set_cons_zero, List.set_cons_succ])
    refine wpAnyH_take (i := 4) (oi := ⟨some 14, _, _, _, _, _⟩) (v := ?_) rfl (by kernel_rfl) (by kernel_rfl) (by kernel_rfl) (fun _ _ _ h => h) (Or.inl ⟨by kernel_rfl, ?_⟩) (by assumption) ?_; rotate_left; focus (intro W0 hSw; have hcS := (bcell hSw).1; go_simp; (try with_reducible rfl)); (try simp only [Act.put, List.setIfInBounds_toArray, List.set_cons_zero, List.set_cons_succ])
    refine wpAnyH_take (i := 6) (oi := ⟨some 16, _, _, _, _, _⟩) (v := ?_) rfl (by kernel_rfl) (by kernel_rfl) (by kernel_rfl) (fun _ _ _ h => h) (Or.inl ⟨by kernel_rfl, ?_⟩) (by assumption) ?_; rotate_left; focus (intro W0 hSw; go_simp; (try with_reducible rfl)); (try simp only [Act.put, List.setIfInBounds_toArray, List.set_cons_zero, List.set_cons_succ])
    refine wpAnyH_take (i := 7) (oi := ⟨some 17, _, _, _, _, _⟩) (v := ?_) rfl (by kernel_rfl) (by kernel_rfl) (by kernel_rfl) (fun _ _ _ h => h) (Or.inl ⟨by kernel_rfl, ?_⟩) (by assumption) ?_; rotate_left; focus (intro W0 hSw; have hcS := (bcell hSw).1; go_simp; (try with_reducible rfl)); (try simp only [Act.put, List.setIfInBounds_toArray, List.set_cons_zero, List.set_cons_succ])
    refine wpAnyH_take (i := 8) (oi := ⟨some 18, _, _, _, _, _⟩) (v := ?_) rfl (by kernel_rfl) (by kernel_rfl) (by kernel_rfl) (fun _ _ _ h => h) (Or.inl ⟨by kernel_rfl, ?_⟩) (by assumption) ?_; rotate_left; focus (intro W0 hSw; go_simp; (try with_reducible rfl)); (try simp only [Act.put, List.setIfInBounds_toArray, List.set_cons_zero, List.set_cons_succ])
    refine wpAnyH_take (i := 9) (oi := ⟨some 19, _, _, _, _, _⟩) (v := ?_) rfl (by kernel_rfl) (by kernel_rfl) (by kernel_rfl) (fun _ _ _ h => h) (Or.inl ⟨by kernel_rfl, ?_⟩) (by assumption) ?_; rotate_left; focus (intro W0 hSw; go_simp; (try with_reducible rfl)); (try simp only [Act.put, List.setIfInBounds_toArray, List.set_cons_zero, List.set_cons_succ])
    refine wpAnyH_take (i := 10) (oi := ⟨some 20, _, _, _, _, _⟩) (v := ?_) rfl (by kernel_rfl) (by kernel_rfl) (by kernel_rfl) (fun _ _ _ h => h) (Or.inl ⟨by kernel_rfl, ?_⟩) (by assumption) ?_; rotate_left; focus (intro W0 hSw; go_simp; (try with_reducible rfl)); (try simp only [Act.put, List.setIfInBounds_toArray, List.set_cons_zero, List.set_cons_succ])
    refine wpAnyH_take (i := 11) (oi := ⟨some 21, _, _, _, _, _⟩) (v := ?_) rfl (by kernel_rfl) (by kernel_rfl) (by kernel_rfl) (fun _ _ _ h => h) (Or.inl ⟨by kernel_rfl, ?_⟩) (by assumption) ?_; rotate_left; focus (intro W0 hSw; have hcS := (bcell hSw).1; go_simp; (try with_reducible rfl)); (try simp only [Act.put, List.setIfInBounds_toArray, List.set_cons_zero, List.set_cons_succ])
    refine wpAnyH_inv2 (fuel := 2) [5, 12, 13, 14] [] [15, 22, 7, 8] (fun uT L W => Below wB.heap.size wB W ∧ (L 5 → (uT 15) = (.agg #[.int .i64 a1, .int .i64 a2])) ∧ (L 12 → (uT 22) = (.agg #[.int .i64 a3, .int .i64 a4])) ∧ (L 13 → FBoxB wB 2 (uT 7) W) ∧ (L 14 → FBoxB wB 2 (uT 8) W) ∧ (L 13 → L 14 → uT 7 ≠ uT 8) ∧ True) (by decide) (by kernel_rfl) (by kernel_rfl) (by intro _ _ _ _ _ h; exact h) (fun uT L W hJ => hJ.1) (fun uT L hL => ⟨hHeld, fun k => absurd k (hL 5 (by decide)), fun k => absurd k (hL 12 (by decide)), fun k => absurd k (hL 13 (by decide)), fun k => absurd k (hL 14 (by decide)), fun k _ => absurd k (hL 13 (by decide)), trivial⟩) ?_ ?_ ?_
    · refine StepsH.cons (d := 15) (o := ⟨some 15, _, _, _, _, _⟩) rfl rfl (by kernel_rfl) ?_ ?_
      rotate_left
      refine StepsH.cons (d := 22) (o := ⟨some 22, _, _, _, _, _⟩) rfl rfl (by kernel_rfl) ?_ ?_
      rotate_left
      refine StepsH.cons (d := 7) (o := ⟨some 7, _, _, _, _, _⟩) rfl rfl (by kernel_rfl) ?_ ?_
      rotate_left
      refine StepsH.cons (d := 8) (o := ⟨some 8, _, _, _, _, _⟩) rfl rfl (by kernel_rfl) ?_ ?_
      rotate_left
      exact StepsH.nil
      · intro uT L W hn hd hJ
        obtain ⟨hk, f15, f22, f7, f8, n7_8, _⟩ := hJ
        intro K hK
        simp only [puts, Act.put, List.setIfInBounds_toArray, List.set_cons_zero, List.set_cons_succ]
        go_simp; (first | (go_at_call 82; (with_reducible refine (spec_l03Point _ _ _ _).mono ?_); rintro e w9 ⟨rfl, hb⟩; have hzz := hb.size; (try simp at hzz); obtain ⟨hc, hf⟩ := bcell hb))
        all_goals (try go_wp2_with fail)
        all_goals
          apply Shut.go4 (W := W) hK
          · simp only [puts, Act.put, List.setIfInBounds_toArray, List.set_cons_zero, List.set_cons_succ]; rfl
          · first | with_reducible assumption | with_reducible exact Below.refl _ _ | exact Below.alloc (Below.refl _ _) (Nat.le_refl _) _
          · intro hb; exact ⟨bstep hk hb, fun _ => upd_same _ _ _, fun k => by rw [upd_ne uT _ (by decide)]; exact (f22 (k.resolve_left (by decide))), fun k => by rw [upd_ne uT _ (by decide)]; exact FBoxB.later hb (f7 (k.resolve_left (by decide))), fun k => by rw [upd_ne uT _ (by decide)]; exact FBoxB.later hb (f8 (k.resolve_left (by decide))), fun k k2 => by rw [upd_ne uT _ (by decide), upd_ne uT _ (by decide)]; exact n7_8 (k.resolve_left (by decide)) (k2.resolve_left (by decide)), trivial⟩
      · intro uT L W hn hd hJ
        obtain ⟨hk, f15, f22, f7, f8, n7_8, _⟩ := hJ
        intro K hK
        simp only [puts, Act.put, List.setIfInBounds_toArray, List.set_cons_zero, List.set_cons_succ]
        go_simp; (first | (go_at_call 82; (with_reducible refine (spec_l03Point _ _ _ _).mono ?_); rintro e w9 ⟨rfl, hb⟩; have hzz := hb.size; (try simp at hzz); obtain ⟨hc, hf⟩ := bcell hb))
        all_goals (try go_wp2_with fail)
        all_goals
          apply Shut.go4 (W := W) hK
          · simp only [puts, Act.put, List.setIfInBounds_toArray, List.set_cons_zero, List.set_cons_succ]; rfl
          · first | with_reducible assumption | with_reducible exact Below.refl _ _ | exact Below.alloc (Below.refl _ _) (Nat.le_refl _) _
          · intro hb; exact ⟨bstep hk hb, fun k => by rw [upd_ne uT _ (by decide)]; exact (f15 (k.resolve_left (by decide))), fun _ => upd_same _ _ _, fun k => by rw [upd_ne uT _ (by decide)]; exact FBoxB.later hb (f7 (k.resolve_left (by decide))), fun k => by rw [upd_ne uT _ (by decide)]; exact FBoxB.later hb (f8 (k.resolve_left (by decide))), fun k k2 => by rw [upd_ne uT _ (by decide), upd_ne uT _ (by decide)]; exact n7_8 (k.resolve_left (by decide)) (k2.resolve_left (by decide)), trivial⟩
      · intro uT L W hn hd hJ
        obtain ⟨hk, f15, f22, f7, f8, n7_8, _⟩ := hJ
        intro K hK
        simp only [puts, Act.put, List.setIfInBounds_toArray, List.set_cons_zero, List.set_cons_succ]
        go_simp
        all_goals (try go_wp2_with fail)
        all_goals
          apply Shut.go4 (W := W) hK
          · simp only [puts, Act.put, List.setIfInBounds_toArray, List.set_cons_zero, List.set_cons_succ]; rfl
          · first | with_reducible assumption | with_reducible exact Below.refl _ _ | exact Below.alloc (Below.refl _ _) (Nat.le_refl _) _
          · intro hb; exact ⟨bstep hk hb, fun k => by rw [upd_ne uT _ (by decide)]; exact (f15 (k.resolve_left (by decide))), fun k => by rw [upd_ne uT _ (by decide)]; exact (f22 (k.resolve_left (by decide))), fun _ => by rw [upd_same]; exact FBoxB.new (Below.size hk) _ _ (by rfl), fun k => by rw [upd_ne uT _ (by decide)]; exact FBoxB.later hb (f8 (k.resolve_left (by decide))), fun _ k => by rw [upd_same, upd_ne uT _ (by decide)]; exact FBoxB.ne_new (f8 (k.resolve_left (by decide))), trivial⟩
      · intro uT L W hn hd hJ
        obtain ⟨hk, f15, f22, f7, f8, n7_8, _⟩ := hJ
        intro K hK
        simp only [puts, Act.put, List.setIfInBounds_toArray, List.set_cons_zero, List.set_cons_succ]
        go_simp
        all_goals (try go_wp2_with fail)
        all_goals
          apply Shut.go4 (W := W) hK
          · simp only [puts, Act.put, List.setIfInBounds_toArray, List.set_cons_zero, List.set_cons_succ]; rfl
          · first | with_reducible assumption | with_reducible exact Below.refl _ _ | exact Below.alloc (Below.refl _ _) (Nat.le_refl _) _
          · intro hb; exact ⟨bstep hk hb, fun k => by rw [upd_ne uT _ (by decide)]; exact (f15 (k.resolve_left (by decide))), fun k => by rw [upd_ne uT _ (by decide)]; exact (f22 (k.resolve_left (by decide))), fun k => by rw [upd_ne uT _ (by decide)]; exact FBoxB.later hb (f7 (k.resolve_left (by decide))), fun _ => by rw [upd_same]; exact FBoxB.new (Below.size hk) _ _ (by rfl), fun k _ => by rw [upd_same, upd_ne uT _ (by decide)]; exact (FBoxB.ne_new (f7 (k.resolve_left (by decide)))).symm, trivial⟩
    · exact PuresH.nil
    · intro uT L W hJ hL
      obtain ⟨hk, f15, f22, f7, f8, n7_8, _⟩ := hJ
      obtain e15 := f15 (hL 5 (by kernel_rfl))
      obtain e22 := f22 (hL 12 (by kernel_rfl))
      obtain ⟨b7, e7, bb7, lb7, cb7⟩ := f7 (hL 13 (by kernel_rfl))
      obtain ⟨b8, e8, bb8, lb8, cb8⟩ := f8 (hL 14 (by kernel_rfl))
      have hne := n7_8 (hL 13 (by kernel_rfl)) (hL 14 (by kernel_rfl)); rw [e7, e8] at hne; simp at hne; have hne2 := Ne.symm hne
      clear hHeld; have hcW := (bcell hk).1; have hfW := (bcell hk).2; have lW := Below.size hk; have hHeld := hk
      clear f15
      clear f22
      clear f7
      clear f8
      clear n7_8
      simp only [puts, Act.put, List.setIfInBounds_toArray, List.set_cons_zero, List.set_cons_succ, setAll, Array.replicate, e15, e22, e7, e8]
      obtain ⟨⟨y7_0, cy7_0⟩, fy7_0⟩ := cb7 0 (by decide)
      obtain ⟨⟨y7_1, cy7_1⟩, fy7_1⟩ := cb7 1 (by decide)
      obtain ⟨⟨y8_0, cy8_0⟩, fy8_0⟩ := cb8 0 (by decide)
      obtain ⟨⟨y8_1, cy8_1⟩, fy8_1⟩ := cb8 1 (by decide)
      refine wpAnyH_ready (rs := [15]) (by kernel_rfl) (by simp) ?_; refine (AllReadyH.cons (o := ⟨none, _, _, _, _, _⟩) rfl (fun K hK => ?_) AllReadyH.nil)
      go_simp
      all_goals (try go_wp2_with fail)
      refine hK.out _ _ ?_ (fun hH2 => ?_)
      · exact (by repeat (first | with_reducible exact Below.refl _ _ | with_reducible assumption | with_reducible refine Below.drew ?_ | with_reducible refine below_drewN ?_ _ | with_reducible refine Below.setCell ?_ (by first | exact Nat.le_refl _ | (simp; done) | (simp; omega) | (dsimp only; omega)) _ | with_reducible refine Below.alloc ?_ (by first | exact Nat.le_refl _ | (simp; done) | (simp; omega) | (simp at *; omega)) _ | with_reducible refine bstep ?_ (by assumption)))
      clear hK K hHeld; (have hHeld := hH2); clear hH2; (try simp only [Act.put])
      refine wpAnyH_ready (rs := [16]) (by kernel_rfl) (by simp) ?_; refine (AllReadyH.cons (o := ⟨none, _, _, _, _, _⟩) rfl (fun K hK => ?_) AllReadyH.nil)
      go_simp
      all_goals (try go_wp2_with fail)
      refine hK.out _ _ ?_ (fun hH2 => ?_)
      · exact (by repeat (first | with_reducible exact Below.refl _ _ | with_reducible assumption | with_reducible refine Below.drew ?_ | with_reducible refine below_drewN ?_ _ | with_reducible refine Below.setCell ?_ (by first | exact Nat.le_refl _ | (simp; done) | (simp; omega) | (dsimp only; omega)) _ | with_reducible refine Below.alloc ?_ (by first | exact Nat.le_refl _ | (simp; done) | (simp; omega) | (simp at *; omega)) _ | with_reducible refine bstep ?_ (by assumption)))
      clear hK K hHeld; (have hHeld := hH2); clear hH2; (try simp only [Act.put])
      refine wpAnyH_done (by kernel_rfl) ?_ _; (try simp only [Act.put, List.setIfInBounds_toArray, List.set_cons_zero, List.set_cons_succ])
      go_wp2_with fail
      go_meet
      exact ⟨_, _, rfl, rfl, (by (repeat with_reducible refine cell_off ?_ (by first | (right; dsimp only; omega) | (left; dsimp only; omega) | (left; simp; omega))); with_reducible refine cell_same_ex ?_; (repeat with_reducible refine cell_off_ex ?_ (by first | (right; dsimp only; omega) | (left; dsimp only; omega) | (left; simp; omega))); exact ⟨_, by assumption⟩), (by (repeat with_reducible refine cell_off ?_ (by first | (right; dsimp only; omega) | (left; dsimp only; omega) | (left; simp; omega))); with_reducible refine cell_same_ex ?_; (repeat with_reducible refine cell_off_ex ?_ (by first | (right; dsimp only; omega) | (left; dsimp only; omega) | (left; simp; omega))); exact ⟨_, by assumption⟩), (by (repeat with_reducible refine cell_off ?_ (by first | (right; dsimp only; omega) | (left; dsimp only; omega) | (left; simp; omega))); with_reducible refine cell_same_ex ?_; (repeat with_reducible refine cell_off_ex ?_ (by first | (right; dsimp only; omega) | (left; dsimp only; omega) | (left; simp; omega))); exact ⟨_, by assumption⟩), (by (repeat with_reducible refine cell_off ?_ (by first | (right; dsimp only; omega) | (left; dsimp only; omega) | (left; simp; omega))); with_reducible refine cell_same_ex ?_; (repeat with_reducible refine cell_off_ex ?_ (by first | (right; dsimp only; omega) | (left; dsimp only; omega) | (left; simp; omega))); exact ⟨_, by assumption⟩), (by go_simp; done), (by go_simp; done), (by go_simp; done), (by go_simp; done), (by omega), (by omega), HBB.out.trans (hHeld.mono HBB.out.size)⟩
  case rest =>
    obtain ⟨g, h', rfl, rfl, q1, q2, q3, q4, t6, t7, t8, t9, kg1, kh1, rB⟩ := hcut
    have kg := World.block_lt_of_cell? _ _ q1
    have kh := World.block_lt_of_cell? _ _ q3
    simp only at kg kh
    have n1 := cell_later rB m1
    have n2 := cell_later rB m2
    have HB := hide rB
    clear rB we hj1 hj2 hj3 hj4 i1 i2 i3 i4 i5 i6 m1 m2 m5
    have hcmp := cmp_pts
    rcases b2 (a1 == a3 && a2 == a4) with h1 | h1
    · have KN2 := hide (KN.out h1)
      obtain ⟨F1, F2, F3, F4⟩ := HF.out h1
      have h9 := Hn.out h1
      clear KN HF He Hn
      subst h9
      have KX := hide (fun W => spec_l02At_wide a1 a3 g9 m9 x1 x2 y1 y2 F1 F2 F3 (by omega) W)
      have KY := hide (fun W => spec_l02At_wide a2 a4 g9 m9 x3 x4 y3 y4 F1 F2 F3 (by omega) W)
      have zc1 : w.heap.size + 1 < wc.heap.size := by omega
      go_upto_region 5 with (go_at_call 83; (with_reducible refine (KN2.out _).mono ?_); rintro e wN ⟨rfl, hb⟩; have hz := hb.size; have u1 := cell_later hb q1; have u2 := cell_later hb q2; have u3 := cell_later hb q3; have u4 := cell_later hb q4; have u6 := cell_later hb t6; have u7 := cell_later hb t7; have u8 := frozen_later hb t6 t8; have u9 := frozen_later hb t7 t9; have HN := hide (HB.out.trans (hb.mono (by omega))); clear q1 q2 q3 q4 t6 t7 t8 t9 hb)
      obtain ⟨wE, hE⟩ : ∃ W, W = wN.alloc (.cells #[.int .i64 g9, .int .i64 m9] 88) := ⟨_, rfl⟩
      have q1 : wE.cell? ⟨g, 0, none⟩ = some (.int .i64 a1) := by rw [hE]; exact cell_alloc u1
      have q2 : wE.cell? ⟨g, 1, none⟩ = some (.int .i64 a2) := by rw [hE]; exact cell_alloc u2
      have q3 : wE.cell? ⟨h', 0, none⟩ = some (.int .i64 a3) := by rw [hE]; exact cell_alloc u3
      have q4 : wE.cell? ⟨h', 1, none⟩ = some (.int .i64 a4) := by rw [hE]; exact cell_alloc u4
      have t6 : wE.cell? ⟨w1.heap.size, 0, none⟩ = some (.int .i64 0) := by rw [hE]; exact cell_alloc u6
      have t7 : wE.cell? ⟨w1.heap.size, 1, none⟩ = some (.int .i64 0) := by rw [hE]; exact cell_alloc u7
      have t8 : wE.frozen? ⟨w1.heap.size, 0, none⟩ = false := by rw [hE]; exact frozen_alloc u6 u8
      have t9 : wE.frozen? ⟨w1.heap.size, 1, none⟩ = false := by rw [hE]; exact frozen_alloc u7 u9
      have v1' : wE.cell? ⟨wN.heap.size, 0, none⟩ = some (.int .i64 g9) := by rw [hE]; go_simp
      have v2' : wE.cell? ⟨wN.heap.size, 1, none⟩ = some (.int .i64 m9) := by rw [hE]; go_simp
      have HE := hide (show Below w1.heap.size w1 wE by rw [hE]; exact Below.alloc HN.out (by omega) _)
      have zE : wN.heap.size < wE.heap.size := by rw [hE]; simp
      have zE1 : w1.heap.size < wE.heap.size := by omega
      have ne1 : ¬ g = w1.heap.size := by omega
      have ne2 : ¬ h' = w1.heap.size := by omega
      have ne3 : ¬ wN.heap.size = w1.heap.size := by omega
      have HE2 := HE.out
      rw [← hE]
      clear hE u1 u2 u3 u4 u6 u7 u8 u9 HN
      have f3 := IntWalk.i64_in
      clear f3
      refine wp_region_held_drew (S := (fun W => W.cell? ⟨g, 0, none⟩ = some (.int .i64 a1) ∧ W.cell? ⟨g, 1, none⟩ = some (.int .i64 a2) ∧ W.cell? ⟨h', 0, none⟩ = some (.int .i64 a3) ∧ W.cell? ⟨h', 1, none⟩ = some (.int .i64 a4) ∧ W.cell? ⟨wN.heap.size, 0, none⟩ = some (.int .i64 g9) ∧ W.cell? ⟨wN.heap.size, 1, none⟩ = some (.int .i64 m9) ∧ Below w1.heap.size w1 W ∧ w1.heap.size + 1 ≤ W.heap.size)) (by kernel_rfl) ?_ (fun hHeld => ?_)
      · exact ⟨(by go_simp; done), (by go_simp; done), (by go_simp; done), (by go_simp; done), (by go_simp; done), (by go_simp; done), (by repeat (first | with_reducible exact Below.refl _ _ | with_reducible assumption | with_reducible refine Below.drew ?_ | with_reducible refine below_drewN ?_ _ | with_reducible refine Below.setCell ?_ (by first | exact Nat.le_refl _ | (simp; done) | (simp; omega) | (dsimp only; omega)) _ | with_reducible refine Below.alloc ?_ (by first | exact Nat.le_refl _ | (simp; done) | (simp; omega) | (simp at *; omega)) _ | with_reducible refine bstep ?_ (by assumption))), (by first | (simp; done) | (simp; omega) | omega)⟩
      refine wpAnyH_take (i := 0) (oi := ⟨some 32, _, _, _, _, _⟩) (v := ?_) rfl (by kernel_rfl) (by kernel_rfl) (by kernel_rfl) (fun _ _ _ h => h) (Or.inl ⟨by kernel_rfl, ?_⟩) (by assumption) ?_; rotate_left; focus (intro W0 hSw; (try dsimp only at hSw); go_simp; (try with_reducible rfl)); (try simp only [Act.put, List.setIfInBounds_toArray, List.set_cons_zero, List.set_cons_succ])
      refine wpAnyH_take (i := 1) (oi := ⟨some 33, _, _, _, _, _⟩) (v := ?_) rfl (by kernel_rfl) (by kernel_rfl) (by kernel_rfl) (fun _ _ _ h => h) (Or.inl ⟨by kernel_rfl, ?_⟩) (by assumption) ?_; rotate_left; focus (intro W0 hSw; (try dsimp only at hSw); go_simp; (try with_reducible rfl)); (try simp only [Act.put, List.setIfInBounds_toArray, List.set_cons_zero, List.set_cons_succ])
      refine wpAnyH_take (i := 2) (oi := ⟨some 34, _, _, _, _, _⟩) (v := ?_) rfl (by kernel_rfl) (by kernel_rfl) (by kernel_rfl) (fun _ _ _ h => h) (Or.inl ⟨by kernel_rfl, ?_⟩) (by assumption) ?_; rotate_left; focus (intro W0 hSw; (try dsimp only at hSw); go_simp; (try with_reducible rfl)); (try simp only [Act.put, List.setIfInBounds_toArray, List.set_cons_zero, List.set_cons_succ])
      refine wpAnyH_take (i := 3) (oi := ⟨some 35, _, _, _, _, _⟩) (v := ?_) rfl (by kernel_rfl) (by kernel_rfl) (by kernel_rfl) (fun _ _ _ h => h) (Or.inl ⟨by kernel_rfl, ?_⟩) (by assumption) ?_; rotate_left; focus (intro W0 hSw; (try dsimp only at hSw); go_simp; (try with_reducible rfl)); (try simp only [Act.put, List.setIfInBounds_toArray, List.set_cons_zero, List.set_cons_succ])
      refine wpAnyH_take (i := 4) (oi := ⟨some 36, _, _, _, _, _⟩) (v := ?_) rfl (by kernel_rfl) (by kernel_rfl) (by kernel_rfl) (fun _ _ _ h => h) (Or.inl ⟨by kernel_rfl, ?_⟩) (by assumption) ?_; rotate_left; focus (intro W0 hSw; (try dsimp only at hSw); go_simp; (try with_reducible rfl)); (try simp only [Act.put, List.setIfInBounds_toArray, List.set_cons_zero, List.set_cons_succ])
      refine wpAnyH_take (i := 6) (oi := ⟨some 38, _, _, _, _, _⟩) (v := ?_) rfl (by kernel_rfl) (by kernel_rfl) (by kernel_rfl) (fun _ _ _ h => h) (Or.inl ⟨by kernel_rfl, ?_⟩) (by assumption) ?_; rotate_left; focus (intro W0 hSw; (try dsimp only at hSw); go_simp; (try with_reducible rfl)); (try simp only [Act.put, List.setIfInBounds_toArray, List.set_cons_zero, List.set_cons_succ])
      refine wpAnyH_take (i := 7) (oi := ⟨some 39, _, _, _, _, _⟩) (v := ?_) rfl (by kernel_rfl) (by kernel_rfl) (by kernel_rfl) (fun _ _ _ h => h) (Or.inl ⟨by kernel_rfl, ?_⟩) (by assumption) ?_; rotate_left; focus (intro W0 hSw; (try dsimp only at hSw); go_simp; (try with_reducible rfl)); (try simp only [Act.put, List.setIfInBounds_toArray, List.set_cons_zero, List.set_cons_succ])
      refine wpAnyH_take (i := 8) (oi := ⟨some 40, _, _, _, _, _⟩) (v := ?_) rfl (by kernel_rfl) (by kernel_rfl) (by kernel_rfl) (fun _ _ _ h => h) (Or.inl ⟨by kernel_rfl, ?_⟩) (by assumption) ?_; rotate_left; focus (intro W0 hSw; (try dsimp only at hSw); go_simp; (try with_reducible rfl)); (try simp only [Act.put, List.setIfInBounds_toArray, List.set_cons_zero, List.set_cons_succ])
      refine wpAnyH_take (i := 9) (oi := ⟨some 41, _, _, _, _, _⟩) (v := ?_) rfl (by kernel_rfl) (by kernel_rfl) (by kernel_rfl) (fun _ _ _ h => h) (Or.inl ⟨by kernel_rfl, ?_⟩) (by assumption) ?_; rotate_left; focus (intro W0 hSw; (try dsimp only at hSw); go_simp; (try with_reducible rfl)); (try simp only [Act.put, List.setIfInBounds_toArray, List.set_cons_zero, List.set_cons_succ])
      refine wpAnyH_take (i := 10) (oi := ⟨some 42, _, _, _, _, _⟩) (v := ?_) rfl (by kernel_rfl) (by kernel_rfl) (by kernel_rfl) (fun _ _ _ h => h) (Or.inl ⟨by kernel_rfl, ?_⟩) (by assumption) ?_; rotate_left; focus (intro W0 hSw; (try dsimp only at hSw); go_simp; (try with_reducible rfl)); (try simp only [Act.put, List.setIfInBounds_toArray, List.set_cons_zero, List.set_cons_succ])
      refine wpAnyH_ready (rs := [5]) (by kernel_rfl) (by simp) ?_; refine (AllReadyH.cons (o := ⟨some 37, _, _, _, _, _⟩) rfl (fun K hK => ?_) AllReadyH.nil)
      go_simp; (first | (go_at_call 73; (with_reducible refine (KX.out _).mono ?_); rintro e w9 ⟨rfl, hb⟩; have hzz := hb.size; (try simp at hzz); have hn0 : ¬ w9.heap.size = w1.heap.size := (by omega); have hm0 : ¬ w1.heap.size = w9.heap.size := (by omega); have z0 : w1.heap.size < w9.heap.size := (by omega); have tc0 : w9.cell? ⟨w1.heap.size, 0, none⟩ = some (.int .i64 0) := (cell_later hb (by first | assumption | simpa using t6)); have tc1 : w9.cell? ⟨w1.heap.size, 1, none⟩ = some (.int .i64 0) := (cell_later hb (by first | assumption | simpa using t7)); have tf0 : w9.frozen? ⟨w1.heap.size, 0, none⟩ = false := (frozen_later (v := .int .i64 0) hb (by first | assumption | simpa using t6) (by first | assumption | simpa using t8)); have tf1 : w9.frozen? ⟨w1.heap.size, 1, none⟩ = false := (frozen_later (v := .int .i64 0) hb (by first | assumption | simpa using t7) (by first | assumption | simpa using t9))) | (go_at_call 73; (with_reducible refine (KY.out _).mono ?_); rintro e w9 ⟨rfl, hb⟩; have hzz := hb.size; (try simp at hzz); have hn0 : ¬ w9.heap.size = w1.heap.size := (by omega); have hm0 : ¬ w1.heap.size = w9.heap.size := (by omega); have z0 : w1.heap.size < w9.heap.size := (by omega); have tc0 : w9.cell? ⟨w1.heap.size, 0, none⟩ = some (.int .i64 0) := (cell_later hb (by first | assumption | simpa using t6)); have tc1 : w9.cell? ⟨w1.heap.size, 1, none⟩ = some (.int .i64 0) := (cell_later hb (by first | assumption | simpa using t7)); have tf0 : w9.frozen? ⟨w1.heap.size, 0, none⟩ = false := (frozen_later (v := .int .i64 0) hb (by first | assumption | simpa using t6) (by first | assumption | simpa using t8)); have tf1 : w9.frozen? ⟨w1.heap.size, 1, none⟩ = false := (frozen_later (v := .int .i64 0) hb (by first | assumption | simpa using t7) (by first | assumption | simpa using t9))))
      all_goals (try go_wp2_with fail)
      refine hK.out _ _ ?_ (fun hH2 => ?_)
      · (try dsimp only); first | (obtain ⟨k1, k2, k3, k4, k5, k6, kB, kz⟩ := hHeld; exact ⟨cell_later hb k1, cell_later hb k2, cell_later hb k3, cell_later hb k4, cell_later hb k5, cell_later hb k6, bstep kB hb, bsize kz hb⟩) | (obtain ⟨k1, k2, k3, k4, k5, k6, kB, kz⟩ := hHeld; exact ⟨k1, k2, k3, k4, k5, k6, kB, kz⟩)
      clear hK K hHeld; (have hHeld := hH2); clear hH2; (try simp only [Act.put, List.setIfInBounds_toArray, List.set_cons_zero, List.set_cons_succ])
      refine wpAnyH_ready (rs := [11]) (by kernel_rfl) (by simp) ?_; refine (AllReadyH.cons (o := ⟨some 43, _, _, _, _, _⟩) rfl (fun K hK => ?_) AllReadyH.nil)
      go_simp; (first | (go_at_call 73; (with_reducible refine (KX.out _).mono ?_); rintro e w9 ⟨rfl, hb⟩; have hzz := hb.size; (try simp at hzz); have hn0 : ¬ w9.heap.size = w1.heap.size := (by omega); have hm0 : ¬ w1.heap.size = w9.heap.size := (by omega); have z0 : w1.heap.size < w9.heap.size := (by omega); have tc0 : w9.cell? ⟨w1.heap.size, 0, none⟩ = some (.int .i64 0) := (cell_later hb (by first | assumption | simpa using t6)); have tc1 : w9.cell? ⟨w1.heap.size, 1, none⟩ = some (.int .i64 0) := (cell_later hb (by first | assumption | simpa using t7)); have tf0 : w9.frozen? ⟨w1.heap.size, 0, none⟩ = false := (frozen_later (v := .int .i64 0) hb (by first | assumption | simpa using t6) (by first | assumption | simpa using t8)); have tf1 : w9.frozen? ⟨w1.heap.size, 1, none⟩ = false := (frozen_later (v := .int .i64 0) hb (by first | assumption | simpa using t7) (by first | assumption | simpa using t9))) | (go_at_call 73; (with_reducible refine (KY.out _).mono ?_); rintro e w9 ⟨rfl, hb⟩; have hzz := hb.size; (try simp at hzz); have hn0 : ¬ w9.heap.size = w1.heap.size := (by omega); have hm0 : ¬ w1.heap.size = w9.heap.size := (by omega); have z0 : w1.heap.size < w9.heap.size := (by omega); have tc0 : w9.cell? ⟨w1.heap.size, 0, none⟩ = some (.int .i64 0) := (cell_later hb (by first | assumption | simpa using t6)); have tc1 : w9.cell? ⟨w1.heap.size, 1, none⟩ = some (.int .i64 0) := (cell_later hb (by first | assumption | simpa using t7)); have tf0 : w9.frozen? ⟨w1.heap.size, 0, none⟩ = false := (frozen_later (v := .int .i64 0) hb (by first | assumption | simpa using t6) (by first | assumption | simpa using t8)); have tf1 : w9.frozen? ⟨w1.heap.size, 1, none⟩ = false := (frozen_later (v := .int .i64 0) hb (by first | assumption | simpa using t7) (by first | assumption | simpa using t9))))
      all_goals (try go_wp2_with fail)
      refine hK.out _ _ ?_ (fun hH2 => ?_)
      · (try dsimp only); first | (obtain ⟨k1, k2, k3, k4, k5, k6, kB, kz⟩ := hHeld; exact ⟨cell_later hb k1, cell_later hb k2, cell_later hb k3, cell_later hb k4, cell_later hb k5, cell_later hb k6, bstep kB hb, bsize kz hb⟩) | (obtain ⟨k1, k2, k3, k4, k5, k6, kB, kz⟩ := hHeld; exact ⟨k1, k2, k3, k4, k5, k6, kB, kz⟩)
      clear hK K hHeld; (have hHeld := hH2); clear hH2; (try simp only [Act.put, List.setIfInBounds_toArray, List.set_cons_zero, List.set_cons_succ])
      refine wpAnyH_take (i := 12) (oi := ⟨some 44, _, _, _, _, _⟩) (v := ?_) rfl (by kernel_rfl) (by kernel_rfl) (by kernel_rfl) (fun _ _ _ h => h) (Or.inl ⟨by kernel_rfl, ?_⟩) (by assumption) ?_; rotate_left; focus (intro W0 hSw; (try dsimp only at hSw); go_simp; (try with_reducible rfl)); (try simp only [Act.put, List.setIfInBounds_toArray, List.set_cons_zero, List.set_cons_succ])
      refine wpAnyH_ready (rs := [13]) (by kernel_rfl) (by simp) ?_; refine (AllReadyH.cons (o := ⟨none, _, _, _, _, _⟩) rfl (fun K hK => ?_) AllReadyH.nil)
      go_simp
      all_goals (try go_wp2_with fail)
      refine hK.out _ _ ?_ (fun hH2 => ?_)
      · (try dsimp only); first | (obtain ⟨k1, k2, k3, k4, k5, k6, kB, kz⟩ := hHeld; (have kz2 := kz); (try simp at kz2); exact ⟨(by with_reducible refine cell_realloc ?_ k1; dsimp only; omega), (by with_reducible refine cell_realloc ?_ k2; dsimp only; omega), (by with_reducible refine cell_realloc ?_ k3; dsimp only; omega), (by with_reducible refine cell_realloc ?_ k4; dsimp only; omega), (by with_reducible refine cell_realloc ?_ k5; dsimp only; omega), (by with_reducible refine cell_realloc ?_ k6; dsimp only; omega), (by with_reducible refine below_realloc kB ?_; omega), (by first | (simp; done) | (simp at kz ⊢; omega) | omega)⟩) | (obtain ⟨k1, k2, k3, k4, k5, k6, kB, kz⟩ := hHeld; exact ⟨(by first | ((repeat with_reducible refine cell_set ?_ (by dsimp only; omega)); with_reducible exact k1) | (go_simp; done)), (by first | ((repeat with_reducible refine cell_set ?_ (by dsimp only; omega)); with_reducible exact k2) | (go_simp; done)), (by first | ((repeat with_reducible refine cell_set ?_ (by dsimp only; omega)); with_reducible exact k3) | (go_simp; done)), (by first | ((repeat with_reducible refine cell_set ?_ (by dsimp only; omega)); with_reducible exact k4) | (go_simp; done)), (by first | ((repeat with_reducible refine cell_set ?_ (by dsimp only; omega)); with_reducible exact k5) | (go_simp; done)), (by first | ((repeat with_reducible refine cell_set ?_ (by dsimp only; omega)); with_reducible exact k6) | (go_simp; done)), (by repeat (first | with_reducible exact Below.refl _ _ | with_reducible assumption | with_reducible refine Below.drew ?_ | with_reducible refine below_drewN ?_ _ | with_reducible refine Below.setCell ?_ (by first | exact Nat.le_refl _ | (simp; done) | (simp; omega) | (dsimp only; omega)) _ | with_reducible refine Below.alloc ?_ (by first | exact Nat.le_refl _ | (simp; done) | (simp; omega) | (simp at *; omega)) _ | with_reducible refine bstep ?_ (by assumption))), (by first | (simp; done) | (simp at kz ⊢; omega) | omega)⟩)
      clear hK K hHeld; (have hHeld := hH2); clear hH2; (try simp only [Act.put, List.setIfInBounds_toArray, List.set_cons_zero, List.set_cons_succ])
      refine wpAnyH_done (by kernel_rfl) ?_ _; (try simp only [Act.put, List.setIfInBounds_toArray, List.set_cons_zero, List.set_cons_succ])
      obtain ⟨k1, k2, k3, k4, k5, k6, kB, kz⟩ := hHeld
      clear HE2
      go_wp2
      simp [bodyPost, results, Tryd.results54, go_sem, *]
      all_goals exact HW1.out.trans (kB.mono (by omega))
    · have h9 := He.out h1
      clear KN HF He Hn
      subst h9
      have ne1 : ¬ g = w1.heap.size := by omega
      go_wp2
      simp [bodyPost, results, Tryd.results54, go_sem, *]
      all_goals exact HW1.out.trans ((Below.setCell (Below.setCell HB.out (by dsimp only; omega) _) (by dsimp only; omega) _).mono (by omega))
end Go.Proofs.YtlllfklehbjneaaDoor
