/- Walks: marks on tracks and on lists of manoeuvres; these lists compared. -/
import Derived.Test.YtnnjfnbdljakmaaMp
import Derived.Test.YtnnjfnbdljakmaaBm
import Derived.Test.YtnnjfnbdljakmaaA
import Derived.Maps.AppendAt
import Derived.Deep.DeepCutAuto
namespace Go.Proofs.Ytnnjfnbdljakmaa
open Go.RowKit

theorem grown_set {w W : World} {g j : Nat} {x : Value} (h : w.grownBy W (some g)) : w.grownBy (W.setCell ⟨g, j, none⟩ x) (some g) :=
  h.trans ⟨rfl, rfl, rfl, by simp [World.setCell], fun k _ hk => Below.heap_setCell _ _ _ k (fun e => hk (by rw [e]))⟩
theorem grown_row {w W : World} {g n c : Nat} {V : Nat → Nat → Value} {so : Option Addr} (hg : w.grownBy W (some g)) (h : ∀ b o, so = some ⟨b, o, none⟩ → b ≠ g) (r : RowAt w so n c V) : RowAt W so n c V := fun i hi => by
  obtain ⟨b, o, e, k⟩ := r i hi
  exact ⟨b, o, e, fun j hj => hg.cell (k j hj) (by simpa using h b o e)⟩
set_option maxHeartbeats 1000000 in
theorem laws_markFixS (g n cap : Nat) (w : World) (hm : Mine w g (n * 3)) (hn : n ≤ 1048576) :
    Calls Try.prog 106 #[.slice (some ⟨g, 0, none⟩) n cap, .int .i64 1] w fun e w' => e = .returned (.int .i64 (1 + 3 * (n : Int))) ∧ w.grownBy w' (some g) := by
  go_enter Try.func106, Try.ntmps106
  go_wp2
  go_loopw [1, 5] (fun kk i wr => ∃ k : Nat, k ≤ n ∧ i = .int .i64 k ∧ kk = .int .i64 (1 + 3 * (k : Int)) ∧ Mine wr g (n * 3) ∧ w.grownBy wr (some g)) (fun _ i _ => n - (intOf i).toNat)
  case atStart => exact ⟨0, Nat.zero_le _, rfl, rfl, hm, World.grownBy.refl _ _⟩
  case round =>
    obtain ⟨k, hk, rfl, rfl, hmine, hgr⟩ := hrel
    by_cases hlt : k < n
    · obtain ⟨x0, m0, f0⟩ := hmine.cells (k * 3) (by omega)
      obtain ⟨x1, m1, f1⟩ := hmine.cells (k * 3 + 1) (by omega)
      obtain ⟨x2, m2, f2⟩ := hmine.cells (k * 3 + 2) (by omega)
      have Hmine := hide hmine
      clear hmine
      go_wp2
      go_roundw
      case rel => exact ⟨k + 1, by omega, by go_num, by go_num, Hmine.out.set.set.set, grown_set (grown_set (grown_set hgr))⟩
      case measure => simp [intOf]; omega
    · obtain rfl : k = n := by omega
      go_wp2
      go_ret
      exact ⟨rfl, hgr⟩
theorem laws_markTrack (g n cap : Nat) (w : World) (hm : Mine w g (n * 3)) (hn : n ≤ 1048576) :
    Calls Try.prog 45 #[.agg #[.slice (some ⟨g, 0, none⟩) n cap], .int .i64 1] w fun e w' => e = .returned (.int .i64 (1 + 3 * (n : Int))) ∧ w.grownBy w' (some g) := by
  go_enter Try.func45, Try.ntmps45
  go_wp2_with (go_at_call 106; (with_reducible refine (laws_markFixS _ _ _ _ (Mine.later (by repeat (first | with_reducible exact Below.refl _ _ | with_reducible assumption | with_reducible refine Below.drew ?_ | with_reducible refine below_drewN ?_ _ | with_reducible refine Below.setCell ?_ (by first | exact Nat.le_refl _ | (simp; done) | (simp; omega) | (dsimp only; omega)) _ | with_reducible refine Below.alloc ?_ (by first | exact Nat.le_refl _ | (simp; done) | (simp; omega) | (simp at *; omega)) _ | with_reducible refine bstep ?_ (by assumption))) hm) hn).mono ?_); rintro e w9 ⟨rfl, hgr⟩)
  go_ret
  exact ⟨rfl, (World.grownBy_alloc _ _ _).trans hgr⟩
theorem laws_eqManoeuvre (a b c d : Int) (w : World) :
    Calls Try.prog 105 #[.agg #[.int .i64 a, .int .i64 b], .agg #[.int .i64 c, .int .i64 d]] w fun e w' => e = .returned (.bool (a == c && b == d)) ∧ Below w.heap.size w w' := by
  go_enter Try.func105, Try.ntmps105
  go_wp2
  all_goals (go_ret; exact ⟨by simp_all, (by repeat (first | with_reducible exact Below.refl _ _ | with_reducible assumption | with_reducible refine Below.drew ?_ | with_reducible refine below_drewN ?_ _ | with_reducible refine Below.setCell ?_ (by first | exact Nat.le_refl _ | (simp; done) | (simp; omega) | (dsimp only; omega)) _ | with_reducible refine Below.alloc ?_ (by first | exact Nat.le_refl _ | (simp; done) | (simp; omega) | (simp at *; omega)) _ | with_reducible refine bstep ?_ (by assumption)))⟩)
set_option maxRecDepth 100000 in
set_option maxHeartbeats 1000000 in
theorem laws_eqManoeuvreS (so1 so2 : Option Addr) (n cap1 cap2 : Nat) (X Y : Nat → Int) (w : World) (h1 : RowAt w so1 n 2 (v2 X Y)) (h2 : RowAt w so2 n 2 (v2 X Y)) (hn : n ≤ 1048576) :
    Calls Try.prog 44 #[.slice so1 n cap1, .slice so2 n cap2] w fun e w' => e = .returned (.bool true) ∧ Below w.heap.size w w' := by
  go_enter Try.func44, Try.ntmps44
  go_wp2
  go_loopw [5] (fun i wr => ∃ k : Nat, k ≤ n ∧ i = .int .i64 k ∧ Below w.heap.size w wr) (fun i _ => n - (intOf i).toNat)
  case atStart => exact ⟨0, Nat.zero_le _, rfl, (by repeat (first | with_reducible exact Below.refl _ _ | with_reducible assumption | with_reducible refine Below.drew ?_ | with_reducible refine below_drewN ?_ _ | with_reducible refine Below.setCell ?_ (by first | exact Nat.le_refl _ | (simp; done) | (simp; omega) | (dsimp only; omega)) _ | with_reducible refine Below.alloc ?_ (by first | exact Nat.le_refl _ | (simp; done) | (simp; omega) | (simp at *; omega)) _ | with_reducible refine bstep ?_ (by assumption)))⟩
  case round =>
    obtain ⟨k, hk, rfl, hbl⟩ := hrel
    have hsz := hbl.size
    by_cases hlt : k < n
    · obtain ⟨b, o, rfl, hbs, c0, c1⟩ := (RowAt.later hbl h1).at2 k hlt
      obtain ⟨b2, o2, rfl, hbs2, d0, d1⟩ := (RowAt.later hbl h2).at2 k hlt
      have hi1 : (0 : Int) ≤ (k : Int) := by omega
      have hi2 : (k : Int) < (n : Int) := by omega
      go_upto_region 6 with fail
      refine wp_region_held_drew (S := (fun W => W.cell? ⟨b, o + k * 2, none⟩ = some (.int .i64 (X k)) ∧ W.cell? ⟨b, o + k * 2 + 1, none⟩ = some (.int .i64 (Y k)) ∧ W.cell? ⟨b2, o2 + k * 2, none⟩ = some (.int .i64 (X k)) ∧ W.cell? ⟨b2, o2 + k * 2 + 1, none⟩ = some (.int .i64 (Y k)) ∧ Below w.heap.size w W ∧ w.heap.size + 0 ≤ W.heap.size)) (by kernel_rfl) ?_ (fun hHeld => ?_)
      · exact ⟨(by go_simp; done), (by go_simp; done), (by go_simp; done), (by go_simp; done), (by repeat (first | with_reducible exact Below.refl _ _ | with_reducible assumption | with_reducible refine Below.drew ?_ | with_reducible refine below_drewN ?_ _ | with_reducible refine Below.setCell ?_ (by first | exact Nat.le_refl _ | (simp; done) | (simp; omega) | (dsimp only; omega)) _ | with_reducible refine Below.alloc ?_ (by first | exact Nat.le_refl _ | (simp; done) | (simp; omega) | (simp at *; omega)) _ | with_reducible refine bstep ?_ (by assumption))), (by first | (simp; done) | (simp; omega) | omega)⟩
      refine wpAnyH_take (i := 0) (oi := ⟨some 17, _, _, _, _, _⟩) (v := ?_) rfl (by kernel_rfl) (by kernel_rfl) (by kernel_rfl) (fun _ _ _ h => h) (Or.inl ⟨by kernel_rfl, ?_⟩) (by assumption) ?_; rotate_left; focus (intro W0 hSw; (try dsimp only at hSw); go_simp; (try with_reducible rfl)); (try simp only [Act.put, List.setIfInBounds_toArray, List.set_cons_zero, List.set_cons_succ])
      refine wpAnyH_take (i := 1) (oi := ⟨some 18, _, _, _, _, _⟩) (v := ?_) rfl (by kernel_rfl) (by kernel_rfl) (by kernel_rfl) (fun _ _ _ h => h) (Or.inl ⟨by kernel_rfl, ?_⟩) (by assumption) ?_; rotate_left; focus (intro W0 hSw; (try dsimp only at hSw); go_simp; (try with_reducible rfl)); (try simp only [Act.put, List.setIfInBounds_toArray, List.set_cons_zero, List.set_cons_succ])
      refine wpAnyH_take (i := 2) (oi := ⟨some 19, _, _, _, _, _⟩) (v := ?_) rfl (by kernel_rfl) (by kernel_rfl) (by kernel_rfl) (fun _ _ _ h => h) (Or.inl ⟨by kernel_rfl, ?_⟩) (by assumption) ?_; rotate_left; focus (intro W0 hSw; (try dsimp only at hSw); go_simp; (try with_reducible rfl)); (try simp only [Act.put, List.setIfInBounds_toArray, List.set_cons_zero, List.set_cons_succ])
      refine wpAnyH_take (i := 3) (oi := ⟨some 20, _, _, _, _, _⟩) (v := ?_) rfl (by kernel_rfl) (by kernel_rfl) (by kernel_rfl) (fun _ _ _ h => h) (Or.inl ⟨by kernel_rfl, ?_⟩) (by assumption) ?_; rotate_left; focus (intro W0 hSw; (try dsimp only at hSw); go_simp; (try with_reducible rfl)); (try simp only [Act.put, List.setIfInBounds_toArray, List.set_cons_zero, List.set_cons_succ])
      refine wpAnyH_take (i := 4) (oi := ⟨some 21, _, _, _, _, _⟩) (v := ?_) rfl (by kernel_rfl) (by kernel_rfl) (by kernel_rfl) (fun _ _ _ h => h) (Or.inl ⟨by kernel_rfl, ?_⟩) (by assumption) ?_; rotate_left; focus (intro W0 hSw; (try dsimp only at hSw); go_simp; (try with_reducible rfl)); (try simp only [Act.put, List.setIfInBounds_toArray, List.set_cons_zero, List.set_cons_succ])
      refine wpAnyH_take (i := 5) (oi := ⟨some 22, _, _, _, _, _⟩) (v := ?_) rfl (by kernel_rfl) (by kernel_rfl) (by kernel_rfl) (fun _ _ _ h => h) (Or.inl ⟨by kernel_rfl, ?_⟩) (by assumption) ?_; rotate_left; focus (intro W0 hSw; (try dsimp only at hSw); go_simp; (try with_reducible rfl)); (try simp only [Act.put, List.setIfInBounds_toArray, List.set_cons_zero, List.set_cons_succ])
      refine wpAnyH_take (i := 6) (oi := ⟨some 23, _, _, _, _, _⟩) (v := ?_) rfl (by kernel_rfl) (by kernel_rfl) (by kernel_rfl) (fun _ _ _ h => h) (Or.inl ⟨by kernel_rfl, ?_⟩) (by assumption) ?_; rotate_left; focus (intro W0 hSw; (try dsimp only at hSw); go_simp; (try with_reducible rfl)); (try simp only [Act.put, List.setIfInBounds_toArray, List.set_cons_zero, List.set_cons_succ])
      refine wpAnyH_take (i := 7) (oi := ⟨some 24, _, _, _, _, _⟩) (v := ?_) rfl (by kernel_rfl) (by kernel_rfl) (by kernel_rfl) (fun _ _ _ h => h) (Or.inl ⟨by kernel_rfl, ?_⟩) (by assumption) ?_; rotate_left; focus (intro W0 hSw; (try dsimp only at hSw); go_simp; (try with_reducible rfl)); (try simp only [Act.put, List.setIfInBounds_toArray, List.set_cons_zero, List.set_cons_succ])
      refine wpAnyH_ready (rs := [8]) (by kernel_rfl) (by simp) ?_; refine (AllReadyH.cons (o := ⟨some 25, _, _, _, _, _⟩) rfl (fun K hK => ?_) AllReadyH.nil)
      go_simp; (go_at_call 105; (with_reducible refine (laws_eqManoeuvre _ _ _ _ _).mono ?_); rintro e w9 ⟨rfl, hb⟩; have hzz := hb.size; (try simp at hzz); obtain ⟨hc, hf⟩ := bcell hb)
      all_goals (try go_wp2_with fail)
      refine hK.out _ _ ?_ (fun hH2 => ?_)
      · (try dsimp only); first | (obtain ⟨k1, k2, k3, k4, kB, kz⟩ := hHeld; exact ⟨cell_later hb k1, cell_later hb k2, cell_later hb k3, cell_later hb k4, bstep kB hb, bsize kz hb⟩) | (obtain ⟨k1, k2, k3, k4, kB, kz⟩ := hHeld; exact ⟨k1, k2, k3, k4, kB, kz⟩)
      clear hK K hHeld; (have hHeld := hH2); clear hH2; (try simp only [Act.put, List.setIfInBounds_toArray, List.set_cons_zero, List.set_cons_succ])
      refine wpAnyH_take (i := 9) (oi := ⟨some 26, _, _, _, _, _⟩) (v := ?_) rfl (by kernel_rfl) (by kernel_rfl) (by kernel_rfl) (fun _ _ _ h => h) (Or.inl ⟨by kernel_rfl, ?_⟩) (by assumption) ?_; rotate_left; focus (intro W0 hSw; (try dsimp only at hSw); go_simp; (try with_reducible rfl)); (try simp only [Act.put, List.setIfInBounds_toArray, List.set_cons_zero, List.set_cons_succ])
      refine wpAnyH_done (by kernel_rfl) ?_ _; (try simp only [Act.put, List.setIfInBounds_toArray, List.set_cons_zero, List.set_cons_succ])
      obtain ⟨k1, k2, k3, k4, kB, kz⟩ := hHeld
      go_wp2
      go_roundw
      case rel => exact ⟨k + 1, by omega, by go_num, kB⟩
      case measure => simp [intOf]; omega
    · go_wp2
      go_ret
      exact ⟨rfl, hbl⟩
def mkX (i : Nat) : Int := 1 + 2 * (i : Int)
def mkY (i : Nat) : Int := 1 + 2 * (i : Int) + 1
theorem laws_markManoeuvreS (so : Option Addr) (g n cap : Nat) (w : World) (hs : n = 0 ∨ so = some ⟨g, 0, none⟩) (hm : Mine w g (n * 2)) (hn : n ≤ 1048576) :
    Calls Try.prog 46 #[.slice so n cap, .int .i64 1] w fun e w' => e = .returned (.int .i64 (1 + 2 * (n : Int))) ∧ w.grownBy w' (some g) ∧ RowAt w' so n 2 (v2 mkX mkY) := by
  go_enter Try.func46, Try.ntmps46
  go_wp2
  go_loopw [1, 5] (fun kk i wr => ∃ k : Nat, k ≤ n ∧ i = .int .i64 k ∧ kk = .int .i64 (1 + 2 * (k : Int)) ∧ RowAt wr so k 2 (v2 mkX mkY) ∧ Mine wr g (n * 2) ∧ w.grownBy wr (some g)) (fun _ i _ => n - (intOf i).toNat)
  case atStart => exact ⟨0, Nat.zero_le _, rfl, rfl, row_zero _ _ _ _, hm, World.grownBy.refl _ _⟩
  case round =>
    obtain ⟨k, hk, rfl, rfl, hrow, hmine, hgr⟩ := hrel
    by_cases hlt : k < n
    · obtain rfl : so = some ⟨g, 0, none⟩ := by rcases hs with h | h; omega; exact h
      obtain ⟨x0, m0, f0⟩ := hmine.cells (k * 2) (by omega)
      obtain ⟨x1, m1, f1⟩ := hmine.cells (k * 2 + 1) (by omega)
      have R := hide (fill2 (n := n) hmine hrow hlt)
      have Hmine := hide hmine
      clear hmine hrow
      go_wp2
      go_roundw
      case rel => exact ⟨k + 1, by omega, by go_num, by go_num, R.out, Hmine.out.set.set, grown_set (grown_set hgr)⟩
      case measure => simp [intOf]; omega
    · obtain rfl : k = n := by omega
      go_wp2
      go_ret
      exact ⟨rfl, hgr, hrow⟩
theorem laws_heldManoeuvreS (so : Option Addr) (n cap : Nat) (w : World) (h : RowAt w so n 2 (v2 mkX mkY)) (hn : n ≤ 1048576) :
    Calls Try.prog 47 #[.slice so n cap, .int .i64 1] w fun e w' => e = .returned (.int .i64 (1 + 2 * (n : Int))) ∧ Below w.heap.size w w' := by
  go_enter Try.func47, Try.ntmps47
  go_wp2
  go_loopw [1, 5] (fun kk i wr => ∃ k : Nat, k ≤ n ∧ i = .int .i64 k ∧ kk = .int .i64 (1 + 2 * (k : Int)) ∧ Below w.heap.size w wr) (fun _ i _ => n - (intOf i).toNat)
  case atStart => exact ⟨0, Nat.zero_le _, rfl, rfl, (by repeat (first | with_reducible exact Below.refl _ _ | with_reducible assumption | with_reducible refine Below.drew ?_ | with_reducible refine below_drewN ?_ _ | with_reducible refine Below.setCell ?_ (by first | exact Nat.le_refl _ | (simp; done) | (simp; omega) | (dsimp only; omega)) _ | with_reducible refine Below.alloc ?_ (by first | exact Nat.le_refl _ | (simp; done) | (simp; omega) | (simp at *; omega)) _ | with_reducible refine bstep ?_ (by assumption)))⟩
  case round =>
    obtain ⟨k, hk, rfl, rfl, hbl⟩ := hrel
    by_cases hlt : k < n
    · obtain ⟨b, o, rfl, hbs, c0, c1⟩ := (RowAt.later hbl h).at2 k hlt
      simp only [mkX, mkY] at c0 c1
      go_wp2
      go_roundw
      case rel => exact ⟨k + 1, by omega, by go_num, by go_num, (by repeat (first | with_reducible exact Below.refl _ _ | with_reducible assumption | with_reducible refine Below.drew ?_ | with_reducible refine below_drewN ?_ _ | with_reducible refine Below.setCell ?_ (by first | exact Nat.le_refl _ | (simp; done) | (simp; omega) | (dsimp only; omega)) _ | with_reducible refine Below.alloc ?_ (by first | exact Nat.le_refl _ | (simp; done) | (simp; omega) | (simp at *; omega)) _ | with_reducible refine bstep ?_ (by assumption)))⟩
      case measure => simp [intOf]; omega
    · obtain rfl : k = n := by omega
      go_wp2
      go_ret
      exact ⟨rfl, hbl⟩
end Go.Proofs.Ytnnjfnbdljakmaa
