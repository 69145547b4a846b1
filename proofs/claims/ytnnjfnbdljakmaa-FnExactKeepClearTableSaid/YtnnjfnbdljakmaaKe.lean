/- Walks: boats that came in are copied, compared, marked; tables of integers compared, marked, held. -/
import Derived.Test.YtnnjfnbdljakmaaKd
import Derived.Test.YtnnjfnbdljakmaaTa
import Derived.Test.YtnnjfnbdljakmaaMk
import Derived.Test.YtnnjfnbdljakmaaLs
namespace Go.Proofs.Ytnnjfnbdljakmaa
open Go.RowKit

theorem fill6 {w : World} {h n k : Nat} {X Y H K L : Nat → Int} {U : Nat → Bool} (m : Mine w h (n * 6)) (r : RowAt w (some ⟨h, 0, none⟩) k 6 (v6 X Y H K L U)) (hk : k < n) :
    RowAt ((((((w.setCell ⟨h, k * 6, none⟩ (.int .i64 (X k))).setCell ⟨h, k * 6 + 1, none⟩ (.int .i64 (Y k))).setCell ⟨h, k * 6 + 2, none⟩ (.int .i64 (H k))).setCell ⟨h, k * 6 + 3, none⟩ (.int .i64 (K k))).setCell ⟨h, k * 6 + 4, none⟩ (.int .i64 (L k))).setCell ⟨h, k * 6 + 5, none⟩ (.bool (U k))) (some ⟨h, 0, none⟩) (k + 1) 6 (v6 X Y H K L U) := by
  refine own_row fun i hi j hj => ?_
  by_cases e : i < k
  · refine (set_row (set_row (set_row (set_row (set_row (set_row (row_own r e hj))))))).trans (congrArg some ?_)
    rw [if_neg (by omega), if_neg (by omega), if_neg (by omega), if_neg (by omega), if_neg (by omega), if_neg (by omega)]
  · obtain rfl : i = k := by omega
    obtain ⟨⟨v, hv⟩, _⟩ := m (i * 6 + j) (by omega)
    refine (set_row (set_row (set_row (set_row (set_row (set_row hv)))))).trans (congrArg some ?_)
    rcases (by omega : j = 0 ∨ j = 1 ∨ j = 2 ∨ j = 3 ∨ j = 4 ∨ j = 5) with rfl | rfl | rfl | rfl | rfl | rfl
    · rw [if_neg (by omega), if_neg (by omega), if_neg (by omega), if_neg (by omega), if_neg (by omega), if_pos (by omega)]; simp [v6]
    · rw [if_neg (by omega), if_neg (by omega), if_neg (by omega), if_neg (by omega), if_pos (by omega)]; simp [v6]
    · rw [if_neg (by omega), if_neg (by omega), if_neg (by omega), if_pos (by omega)]; simp [v6]
    · rw [if_neg (by omega), if_neg (by omega), if_pos (by omega)]; simp [v6]
    · rw [if_neg (by omega), if_pos (by omega)]; simp [v6]
    · rw [if_pos (by omega)]; simp [v6]
theorem infoBoat : (Try.prog.info? 62).map (fun i => (i.zero, i.size, i.bytes)) = some (some (.agg #[.int .i64 0, .int .i64 0, .int .i64 0, .int .i64 0, .int .i64 0, .bool false]), 6, 48) := by kernel_rfl
set_option maxRecDepth 100000 in
set_option maxHeartbeats 2000000 in
theorem laws_toBoatS (so : Option Addr) (n cap : Nat) (X Y H K L : Nat → Int) (U : Nat → Bool) (w : World) (h : RowAt w so n 6 (v6 X Y H K L U)) (hn : n ≤ 1048576) :
    Calls Try.prog 50 #[.slice so n cap] w (Copied w n 6 (v6 X Y H K L U)) := by
  obtain ⟨i0, hi, hz0, hz1, hz2⟩ := info_parts infoBoat
  have hmk := fun W => run_make_rowN (P := Try.prog) 96 62 i0 _ Try.underlying96 hi hz0 n (by rw [hz2]; omega) (by omega) W
  have hsz : (madeCells (Value.agg #[.int .i64 0, .int .i64 0, .int .i64 0, .int .i64 0, .int .i64 0, .bool false]).cells (n * i0.size)).size = n * 6 := by rw [size_madeCells, hz1]
  have Hs := hide hsz
  clear hsz hi hz0 hz1 hz2
  go_enter Try.func50, Try.ntmps50
  go_wp2
  go_loopw [4] (fun i wr => ∃ k : Nat, k ≤ n ∧ i = .int .i64 k ∧ RowAt wr (some ⟨w.heap.size, 0, none⟩) k 6 (v6 X Y H K L U) ∧ Mine wr w.heap.size (n * 6) ∧ w.heap.size < wr.heap.size ∧ Below w.heap.size w wr) (fun i _ => n - (intOf i).toNat)
  case atStart => exact ⟨0, Nat.zero_le _, rfl, row_zero _ _ _ _, mine_make Hs.out, by simp, (by repeat (first | with_reducible exact Below.refl _ _ | with_reducible assumption | with_reducible refine Below.drew ?_ | with_reducible refine below_drewN ?_ _ | with_reducible refine Below.setCell ?_ (by first | exact Nat.le_refl _ | (simp; done) | (simp; omega) | (dsimp only; omega)) _ | with_reducible refine Below.alloc ?_ (by first | exact Nat.le_refl _ | (simp; done) | (simp; omega) | (simp at *; omega)) _ | with_reducible refine bstep ?_ (by assumption)))⟩
  case round =>
    obtain ⟨k, hk, rfl, hrow, hmine, hlt9, hbl⟩ := hrel
    clear hmk
    by_cases hlt : k < n
    · obtain ⟨b, o, rfl, hbs, c0, c1, c2, c3, c4, c5⟩ := (RowAt.later hbl h).at6 k hlt
      obtain ⟨x0, m0, f0⟩ := hmine.cells (k * 6) (by omega)
      obtain ⟨x1, m1, f1⟩ := hmine.cells (k * 6 + 1) (by omega)
      obtain ⟨x2, m2, f2⟩ := hmine.cells (k * 6 + 2) (by omega)
      obtain ⟨x3, m3, f3⟩ := hmine.cells (k * 6 + 3) (by omega)
      obtain ⟨x4, m4, f4⟩ := hmine.cells (k * 6 + 4) (by omega)
      obtain ⟨x5, m5, f5⟩ := hmine.cells (k * 6 + 5) (by omega)
      have Hrow := hide hrow
      have Hmine := hide hmine
      clear hrow hmine
      go_wp2_with (first | (go_at_call 29; (with_reducible refine (laws_toBoat _ _ _ _ _ _ _).mono ?_); rintro e w9 ⟨rfl, hb⟩; obtain ⟨hc, hf⟩ := bcell hb; have hz := hb.size; have z0 : w.heap.size < w9.heap.size := (by first | omega | (simp at hz; omega)); have zzb : b < w9.heap.size := (by first | omega | (simp at hz; omega))))
      have R := hide (fill6 (n := n) (Mine.later hb Hmine.out) (RowAt.later hb Hrow.out) hlt)
      have M := hide (Mine.set (p := ⟨w.heap.size, k * 6 + 5, none⟩) (x := .bool (U k)) (Mine.set (p := ⟨w.heap.size, k * 6 + 4, none⟩) (x := .int .i64 (L k)) (Mine.set (p := ⟨w.heap.size, k * 6 + 3, none⟩) (x := .int .i64 (K k)) (Mine.set (p := ⟨w.heap.size, k * 6 + 2, none⟩) (x := .int .i64 (H k)) (Mine.set (p := ⟨w.heap.size, k * 6 + 1, none⟩) (x := .int .i64 (Y k)) (Mine.set (p := ⟨w.heap.size, k * 6, none⟩) (x := .int .i64 (X k)) (Mine.later hb Hmine.out)))))))
      go_roundw
      case rel => exact ⟨k + 1, by omega, by go_num, R.out, M.out, by simp; omega, (by repeat (first | with_reducible exact Below.refl _ _ | with_reducible assumption | with_reducible refine Below.drew ?_ | with_reducible refine below_drewN ?_ _ | with_reducible refine Below.setCell ?_ (by first | exact Nat.le_refl _ | (simp; done) | (simp; omega) | (dsimp only; omega)) _ | with_reducible refine Below.alloc ?_ (by first | exact Nat.le_refl _ | (simp; done) | (simp; omega) | (simp at *; omega)) _ | with_reducible refine bstep ?_ (by assumption)))⟩
      case measure => simp [intOf]; omega
    · obtain rfl : k = n := by omega
      go_wp2
      go_ret
      exact ⟨w.heap.size, rfl, hrow, hmine, Nat.le_refl _, hlt9, hbl⟩
theorem laws_szBoatS_yes (so : Option Addr) (n cap : Nat) (left : Int) (w : World) (h : (n : Int) ≤ left) (h2 : left ≤ 1048576) :
    Calls Try.prog 48 #[.slice so n cap, .int .i64 left] w fun e w' => e = .returned (.int .i64 (left - n)) ∧ w = w' := by
  go_enter Try.func48, Try.ntmps48
  go_wp2
  go_ret
  exact ⟨rfl, rfl⟩
theorem laws_szBoatS_no (so : Option Addr) (n cap : Nat) (left : Int) (w : World) (h : left < (n : Int)) (h1 : 0 ≤ left) (h2 : (n : Int) ≤ 9223372036854775807) :
    Calls Try.prog 48 #[.slice so n cap, .int .i64 left] w fun e w' => e = .returned (.int .i64 (-1)) ∧ w = w' := by
  go_enter Try.func48, Try.ntmps48
  go_wp2
  go_ret
  exact ⟨rfl, rfl⟩
theorem laws_eqPointK (a b c d : Int) (w : World) :
    Calls Try.prog 70 #[.agg #[.int .i64 a, .int .i64 b], .agg #[.int .i64 c, .int .i64 d]] w fun e w' => e = .returned (.bool (a == c && b == d)) ∧ Below w.heap.size w w' := by
  go_enter Try.func70, Try.ntmps70
  go_wp2
  all_goals (go_ret; exact ⟨by simp_all, (by repeat (first | with_reducible exact Below.refl _ _ | with_reducible assumption | with_reducible refine Below.drew ?_ | with_reducible refine below_drewN ?_ _ | with_reducible refine Below.setCell ?_ (by first | exact Nat.le_refl _ | (simp; done) | (simp; omega) | (dsimp only; omega)) _ | with_reducible refine Below.alloc ?_ (by first | exact Nat.le_refl _ | (simp; done) | (simp; omega) | (simp at *; omega)) _ | with_reducible refine bstep ?_ (by assumption)))⟩)
set_option maxHeartbeats 1000000 in
theorem laws_eqHullK (a b c d l : Int) (w : World) :
    Calls Try.prog 27 #[.agg #[.int .i64 a, .int .i64 b, .int .i64 c, .int .i64 d, .int .i64 l], .agg #[.int .i64 a, .int .i64 b, .int .i64 c, .int .i64 d, .int .i64 l]] w fun e w' => e = .returned (.bool true) ∧ Below w.heap.size w w' := by
  go_enter Try.func27, Try.ntmps27
  go_wp2_with (go_at_call 70; (with_reducible refine (laws_eqPointK _ _ _ _ _).mono ?_); rintro e w9 ⟨rfl, hb⟩; obtain ⟨hc, hf⟩ := bcell hb; have hz := hb.size; have z0 : w.heap.size < w9.heap.size := (by first | omega | (simp at hz; omega)); have z1 : w.heap.size + 1 < w9.heap.size := (by first | omega | (simp at hz; omega)))
  all_goals (go_ret; exact ⟨rfl, (by repeat (first | with_reducible exact Below.refl _ _ | with_reducible assumption | with_reducible refine Below.drew ?_ | with_reducible refine below_drewN ?_ _ | with_reducible refine Below.setCell ?_ (by first | exact Nat.le_refl _ | (simp; done) | (simp; omega) | (dsimp only; omega)) _ | with_reducible refine Below.alloc ?_ (by first | exact Nat.le_refl _ | (simp; done) | (simp; omega) | (simp at *; omega)) _ | with_reducible refine bstep ?_ (by assumption)))⟩)
set_option maxHeartbeats 1000000 in
theorem laws_eqBoatK (a b c d l : Int) (t : Bool) (w : World) :
    Calls Try.prog 59 #[.agg #[.int .i64 a, .int .i64 b, .int .i64 c, .int .i64 d, .int .i64 l, .bool (t)], .agg #[.int .i64 a, .int .i64 b, .int .i64 c, .int .i64 d, .int .i64 l, .bool (t)]] w fun e w' => e = .returned (.bool true) ∧ Below w.heap.size w w' := by
  go_enter Try.func59, Try.ntmps59
  go_wp2_with (go_at_call 27; (with_reducible refine (laws_eqHullK _ _ _ _ _ _).mono ?_); rintro e w9 ⟨rfl, hb⟩; obtain ⟨hc, hf⟩ := bcell hb; have hz := hb.size; have z0 : w.heap.size < w9.heap.size := (by first | omega | (simp at hz; omega)); have z1 : w.heap.size + 1 < w9.heap.size := (by first | omega | (simp at hz; omega)))
  all_goals (go_ret; exact ⟨rfl, (by repeat (first | with_reducible exact Below.refl _ _ | with_reducible assumption | with_reducible refine Below.drew ?_ | with_reducible refine below_drewN ?_ _ | with_reducible refine Below.setCell ?_ (by first | exact Nat.le_refl _ | (simp; done) | (simp; omega) | (dsimp only; omega)) _ | with_reducible refine Below.alloc ?_ (by first | exact Nat.le_refl _ | (simp; done) | (simp; omega) | (simp at *; omega)) _ | with_reducible refine bstep ?_ (by assumption)))⟩)
set_option maxRecDepth 100000 in
set_option maxHeartbeats 2000000 in
theorem laws_eqBoatS (so1 so2 : Option Addr) (n cap1 cap2 : Nat) (X Y H K L : Nat → Int) (U : Nat → Bool) (w : World) (h1 : RowAt w so1 n 6 (v6 X Y H K L U)) (h2 : RowAt w so2 n 6 (v6 X Y H K L U)) (hn : n ≤ 1048576) :
    Calls Try.prog 53 #[.slice so1 n cap1, .slice so2 n cap2] w fun e w' => e = .returned (.bool true) ∧ Below w.heap.size w w' := by
  go_enter Try.func53, Try.ntmps53
  go_wp2
  go_loopw [5] (fun i wr => ∃ k : Nat, k ≤ n ∧ i = .int .i64 k ∧ Below w.heap.size w wr) (fun i _ => n - (intOf i).toNat)
  case atStart => exact ⟨0, Nat.zero_le _, rfl, (by repeat (first | with_reducible exact Below.refl _ _ | with_reducible assumption | with_reducible refine Below.drew ?_ | with_reducible refine below_drewN ?_ _ | with_reducible refine Below.setCell ?_ (by first | exact Nat.le_refl _ | (simp; done) | (simp; omega) | (dsimp only; omega)) _ | with_reducible refine Below.alloc ?_ (by first | exact Nat.le_refl _ | (simp; done) | (simp; omega) | (simp at *; omega)) _ | with_reducible refine bstep ?_ (by assumption)))⟩
  case round =>
    obtain ⟨k, hk, rfl, hbl⟩ := hrel
    have hsz := hbl.size
    by_cases hlt : k < n
    · obtain ⟨b, o, rfl, hbs, c0, c1, c2, c3, c4, c5⟩ := (RowAt.later hbl h1).at6 k hlt
      obtain ⟨b2, o2, rfl, hbs2, d0, d1, d2, d3, d4, d5⟩ := (RowAt.later hbl h2).at6 k hlt
      have hi1 : (0 : Int) ≤ (k : Int) := by omega
      have hi2 : (k : Int) < (n : Int) := by omega
      go_upto_region 6 with fail
      refine wp_region_held_drew (S := (fun W => W.cell? ⟨b, o + k * 6, none⟩ = some (.int .i64 (X k)) ∧ W.cell? ⟨b, o + k * 6 + 1, none⟩ = some (.int .i64 (Y k)) ∧ W.cell? ⟨b, o + k * 6 + 2, none⟩ = some (.int .i64 (H k)) ∧ W.cell? ⟨b, o + k * 6 + 3, none⟩ = some (.int .i64 (K k)) ∧ W.cell? ⟨b, o + k * 6 + 4, none⟩ = some (.int .i64 (L k)) ∧ W.cell? ⟨b, o + k * 6 + 5, none⟩ = some (.bool (U k)) ∧ W.cell? ⟨b2, o2 + k * 6, none⟩ = some (.int .i64 (X k)) ∧ W.cell? ⟨b2, o2 + k * 6 + 1, none⟩ = some (.int .i64 (Y k)) ∧ W.cell? ⟨b2, o2 + k * 6 + 2, none⟩ = some (.int .i64 (H k)) ∧ W.cell? ⟨b2, o2 + k * 6 + 3, none⟩ = some (.int .i64 (K k)) ∧ W.cell? ⟨b2, o2 + k * 6 + 4, none⟩ = some (.int .i64 (L k)) ∧ W.cell? ⟨b2, o2 + k * 6 + 5, none⟩ = some (.bool (U k)) ∧ Below w.heap.size w W ∧ w.heap.size + 0 ≤ W.heap.size)) (by kernel_rfl) ?_ (fun hHeld => ?_)
      · exact ⟨(by go_simp; done), (by go_simp; done), (by go_simp; done), (by go_simp; done), (by go_simp; done), (by go_simp; done), (by go_simp; done), (by go_simp; done), (by go_simp; done), (by go_simp; done), (by go_simp; done), (by go_simp; done), (by repeat (first | with_reducible exact Below.refl _ _ | with_reducible assumption | with_reducible refine Below.drew ?_ | with_reducible refine below_drewN ?_ _ | with_reducible refine Below.setCell ?_ (by first | exact Nat.le_refl _ | (simp; done) | (simp; omega) | (dsimp only; omega)) _ | with_reducible refine Below.alloc ?_ (by first | exact Nat.le_refl _ | (simp; done) | (simp; omega) | (simp at *; omega)) _ | with_reducible refine bstep ?_ (by assumption))), (by first | (simp; done) | (simp; omega) | omega)⟩
      refine wpAnyH_take (i := 0) (oi := ⟨some 17, _, _, _, _, _⟩) (v := ?_) rfl (by kernel_rfl) (by kernel_rfl) (by kernel_rfl) (fun _ _ _ h => h) (Or.inl ⟨by kernel_rfl, ?_⟩) (by assumption) ?_; rotate_left; focus (intro W0 hSw; (try dsimp only at hSw); go_simp; (try with_reducible rfl)); (try simp only [Act.put, List.setIfInBounds_toArray, List.set_cons_zero, List.set_cons_succ])
      refine wpAnyH_take (i := 1) (oi := ⟨some 18, _, _, _, _, _⟩) (v := ?_) rfl (by kernel_rfl) (by kernel_rfl) (by kernel_rfl) (fun _ _ _ h => h) (Or.inl ⟨by kernel_rfl, ?_⟩) (by assumption) ?_; rotate_left; focus (intro W0 hSw; (try dsimp only at hSw); go_simp; (try with_reducible rfl)); (try simp only [Act.put, List.setIfInBounds_toArray, List.set_cons_zero, List.set_cons_succ])
      refine wpAnyH_take (i := 2) (oi := ⟨some 19, _, _, _, _, _⟩) (v := ?_) rfl (by kernel_rfl) (by kernel_rfl) (by kernel_rfl) (fun _ _ _ h => h) (Or.inl ⟨by kernel_rfl, ?_⟩) (by assumption) ?_; rotate_left; focus (intro W0 hSw; (try dsimp only at hSw); go_simp; (try with_reducible rfl)); (try simp only [Act.put, List.setIfInBounds_toArray, List.set_cons_zero, List.set_cons_succ])
      refine wpAnyH_take (i := 3) (oi := ⟨some 20, _, _, _, _, _⟩) (v := ?_) rfl (by kernel_rfl) (by kernel_rfl) (by kernel_rfl) (fun _ _ _ h => h) (Or.inl ⟨by kernel_rfl, ?_⟩) (by assumption) ?_; rotate_left; focus (intro W0 hSw; (try dsimp only at hSw); go_simp; (try with_reducible rfl)); (try simp only [Act.put, List.setIfInBounds_toArray, List.set_cons_zero, List.set_cons_succ])
      refine wpAnyH_take (i := 4) (oi := ⟨some 21, _, _, _, _, _⟩) (v := ?_) rfl (by kernel_rfl) (by kernel_rfl) (by kernel_rfl) (fun _ _ _ h => h) (Or.inl ⟨by kernel_rfl, ?_⟩) (by assumption) ?_; rotate_left; focus (intro W0 hSw; (try dsimp only at hSw); go_simp; (try with_reducible rfl)); (try simp only [Act.put, List.setIfInBounds_toArray, List.set_cons_zero, List.set_cons_succ])
      refine wpAnyH_take (i := 5) (oi := ⟨some 22, _, _, _, _, _⟩) (v := ?_) rfl (by kernel_rfl) (by kernel_rfl) (by kernel_rfl) (fun _ _ _ h => h) (Or.inl ⟨by kernel_rfl, ?_⟩) (by assumption) ?_; rotate_left; focus (intro W0 hSw; (try dsimp only at hSw); go_simp; (try with_reducible rfl)); (try simp only [Act.put, List.setIfInBounds_toArray, List.set_cons_zero, List.set_cons_succ])
      refine wpAnyH_take (i := 6) (oi := ⟨some 23, _, _, _, _, _⟩) (v := ?_) rfl (by kernel_rfl) (by kernel_rfl) (by kernel_rfl) (fun _ _ _ h => h) (Or.inl ⟨by kernel_rfl, ?_⟩) (by assumption) ?_; rotate_left; focus (intro W0 hSw; (try dsimp only at hSw); go_simp; (try with_reducible rfl)); (try simp only [Act.put, List.setIfInBounds_toArray, List.set_cons_zero, List.set_cons_succ])
      refine wpAnyH_take (i := 7) (oi := ⟨some 24, _, _, _, _, _⟩) (v := ?_) rfl (by kernel_rfl) (by kernel_rfl) (by kernel_rfl) (fun _ _ _ h => h) (Or.inl ⟨by kernel_rfl, ?_⟩) (by assumption) ?_; rotate_left; focus (intro W0 hSw; (try dsimp only at hSw); go_simp; (try with_reducible rfl)); (try simp only [Act.put, List.setIfInBounds_toArray, List.set_cons_zero, List.set_cons_succ])
      refine wpAnyH_ready (rs := [8]) (by kernel_rfl) (by simp) ?_; refine (AllReadyH.cons (o := ⟨some 25, _, _, _, _, _⟩) rfl (fun K hK => ?_) AllReadyH.nil)
      go_simp; (go_at_call 59; (with_reducible refine (laws_eqBoatK _ _ _ _ _ _ _).mono ?_); rintro e w9 ⟨rfl, hb⟩; have hzz := hb.size; (try simp at hzz); obtain ⟨hc, hf⟩ := bcell hb)
      all_goals (try go_wp2_with fail)
      refine hK.out _ _ ?_ (fun hH2 => ?_)
      · (try dsimp only); first | (obtain ⟨k1, k2, k3, k4, k5, k6, k7, k8, k9, k10, k11, k12, kB, kz⟩ := hHeld; exact ⟨cell_later hb k1, cell_later hb k2, cell_later hb k3, cell_later hb k4, cell_later hb k5, cell_later hb k6, cell_later hb k7, cell_later hb k8, cell_later hb k9, cell_later hb k10, cell_later hb k11, cell_later hb k12, bstep kB hb, bsize kz hb⟩) | (obtain ⟨k1, k2, k3, k4, k5, k6, k7, k8, k9, k10, k11, k12, kB, kz⟩ := hHeld; exact ⟨k1, k2, k3, k4, k5, k6, k7, k8, k9, k10, k11, k12, kB, kz⟩)
      clear hK K hHeld; (have hHeld := hH2); clear hH2; (try simp only [Act.put, List.setIfInBounds_toArray, List.set_cons_zero, List.set_cons_succ])
      refine wpAnyH_take (i := 9) (oi := ⟨some 26, _, _, _, _, _⟩) (v := ?_) rfl (by kernel_rfl) (by kernel_rfl) (by kernel_rfl) (fun _ _ _ h => h) (Or.inl ⟨by kernel_rfl, ?_⟩) (by assumption) ?_; rotate_left; focus (intro W0 hSw; (try dsimp only at hSw); go_simp; (try with_reducible rfl)); (try simp only [Act.put, List.setIfInBounds_toArray, List.set_cons_zero, List.set_cons_succ])
      refine wpAnyH_done (by kernel_rfl) ?_ _; (try simp only [Act.put, List.setIfInBounds_toArray, List.set_cons_zero, List.set_cons_succ])
      obtain ⟨k1, k2, k3, k4, k5, k6, k7, k8, k9, k10, k11, k12, kB, kz⟩ := hHeld
      go_wp2
      (go_roundw; (case rel => exact ⟨k + 1, by omega, by go_num, kB⟩); (case measure => simp [intOf]; omega))
    · go_wp2
      go_ret
      exact ⟨rfl, hbl⟩
set_option maxHeartbeats 4000000 in
theorem laws_markBoatS (g n cap : Nat) (w : World) (hm : Mine w g (n * 6)) (hn : n ≤ 1048576) :
    Calls Try.prog 54 #[.slice (some ⟨g, 0, none⟩) n cap, .int .i64 1] w fun e w' => e = .returned (.int .i64 (1 + 6 * (n : Int))) ∧ w.grownBy w' (some g) := by
  go_enter Try.func54, Try.ntmps54
  go_wp2
  go_loopw [1, 5] (fun kk i wr => ∃ k : Nat, k ≤ n ∧ i = .int .i64 k ∧ kk = .int .i64 (1 + 6 * (k : Int)) ∧ Mine wr g (n * 6) ∧ w.grownBy wr (some g)) (fun _ i _ => n - (intOf i).toNat)
  case atStart => exact ⟨0, Nat.zero_le _, rfl, rfl, hm, World.grownBy.refl _ _⟩
  case round =>
    obtain ⟨k, hk, rfl, rfl, hmine, hgr⟩ := hrel
    by_cases hlt : k < n
    · obtain ⟨x0, m0, f0⟩ := hmine.cells (k * 6) (by omega)
      obtain ⟨x1, m1, f1⟩ := hmine.cells (k * 6 + 1) (by omega)
      obtain ⟨x2, m2, f2⟩ := hmine.cells (k * 6 + 2) (by omega)
      obtain ⟨x3, m3, f3⟩ := hmine.cells (k * 6 + 3) (by omega)
      obtain ⟨x4, m4, f4⟩ := hmine.cells (k * 6 + 4) (by omega)
      obtain ⟨x5, m5, f5⟩ := hmine.cells (k * 6 + 5) (by omega)
      have Hmine := hide hmine
      have Hgr := hide hgr
      clear hmine hgr
      go_wp2
      go_roundw
      case rel => exact ⟨k + 1, by omega, by go_num, by go_num, Hmine.out.set.set.set.set.set.set, grown_set (grown_set (grown_set (grown_set (grown_set (grown_set Hgr.out)))))⟩
      case measure => simp [intOf]; omega
    · obtain rfl : k = n := by omega
      go_wp2
      go_ret
      exact ⟨rfl, hgr⟩

/-- A row of integers by a function. -/
def v1 (V : Nat → Int) (i _j : Nat) : Value := .int .i64 (V i)
theorem RowAt.v1 {w : World} {so : Option Addr} {L : List Int} (h : RowAt w so L.length 1 (vI L)) : RowAt w so L.length 1 (v1 fun i => L[i]?.getD 0) := h
set_option maxRecDepth 100000 in
set_option maxHeartbeats 1000000 in
theorem laws_eqInt64S (so1 so2 : Option Addr) (n cap1 cap2 : Nat) (V : Nat → Int) (w : World) (h1 : RowAt w so1 n 1 (v1 V)) (h2 : RowAt w so2 n 1 (v1 V)) (hn : n ≤ 1048576) :
    Calls Try.prog 108 #[.slice so1 n cap1, .slice so2 n cap2] w fun e w' => e = .returned (.bool true) ∧ Below w.heap.size w w' := by
  go_enter Try.func108, Try.ntmps108
  go_wp2
  go_loopw [5] (fun i wr => ∃ k : Nat, k ≤ n ∧ i = .int .i64 k ∧ Below w.heap.size w wr) (fun i _ => n - (intOf i).toNat)
  case atStart => exact ⟨0, Nat.zero_le _, rfl, (by repeat (first | with_reducible exact Below.refl _ _ | with_reducible assumption | with_reducible refine Below.drew ?_ | with_reducible refine below_drewN ?_ _ | with_reducible refine Below.setCell ?_ (by first | exact Nat.le_refl _ | (simp; done) | (simp; omega) | (dsimp only; omega)) _ | with_reducible refine Below.alloc ?_ (by first | exact Nat.le_refl _ | (simp; done) | (simp; omega) | (simp at *; omega)) _ | with_reducible refine bstep ?_ (by assumption)))⟩
  case round =>
    obtain ⟨k, hk, rfl, hbl⟩ := hrel
    have hsz := hbl.size
    by_cases hlt : k < n
    · obtain ⟨b, o, rfl, hbs, c0⟩ := (RowAt.later hbl h1).at1 k hlt
      obtain ⟨b2, o2, rfl, hbs2, d0⟩ := (RowAt.later hbl h2).at1 k hlt
      simp only [Go.Proofs.Ytnnjfnbdljakmaa.v1] at c0 d0
      have hi1 : (0 : Int) ≤ (k : Int) := by omega
      have hi2 : (k : Int) < (n : Int) := by omega
      go_upto_region 6 with fail
      refine wp_region_held_drew (S := (fun W => W.cell? ⟨b, o + k, none⟩ = some (.int .i64 (V k)) ∧ W.cell? ⟨b2, o2 + k, none⟩ = some (.int .i64 (V k)) ∧ Below w.heap.size w W ∧ w.heap.size + 0 ≤ W.heap.size)) (by kernel_rfl) ?_ (fun hHeld => ?_)
      · exact ⟨(by go_simp; done), (by go_simp; done), (by repeat (first | with_reducible exact Below.refl _ _ | with_reducible assumption | with_reducible refine Below.drew ?_ | with_reducible refine below_drewN ?_ _ | with_reducible refine Below.setCell ?_ (by first | exact Nat.le_refl _ | (simp; done) | (simp; omega) | (dsimp only; omega)) _ | with_reducible refine Below.alloc ?_ (by first | exact Nat.le_refl _ | (simp; done) | (simp; omega) | (simp at *; omega)) _ | with_reducible refine bstep ?_ (by assumption))), (by first | (simp; done) | (simp; omega) | omega)⟩
      refine wpAnyH_take (i := 0) (oi := ⟨some 17, _, _, _, _, _⟩) (v := ?_) rfl (by kernel_rfl) (by kernel_rfl) (by kernel_rfl) (fun _ _ _ h => h) (Or.inl ⟨by kernel_rfl, ?_⟩) (by assumption) ?_; rotate_left; focus (intro W0 hSw; (try dsimp only at hSw); go_simp; (try with_reducible rfl)); (try simp only [Act.put, List.setIfInBounds_toArray, List.set_cons_zero, List.set_cons_succ])
      refine wpAnyH_take (i := 1) (oi := ⟨some 18, _, _, _, _, _⟩) (v := ?_) rfl (by kernel_rfl) (by kernel_rfl) (by kernel_rfl) (fun _ _ _ h => h) (Or.inl ⟨by kernel_rfl, ?_⟩) (by assumption) ?_; rotate_left; focus (intro W0 hSw; (try dsimp only at hSw); go_simp; (try with_reducible rfl)); (try simp only [Act.put, List.setIfInBounds_toArray, List.set_cons_zero, List.set_cons_succ])
      refine wpAnyH_take (i := 2) (oi := ⟨some 19, _, _, _, _, _⟩) (v := ?_) rfl (by kernel_rfl) (by kernel_rfl) (by kernel_rfl) (fun _ _ _ h => h) (Or.inl ⟨by kernel_rfl, ?_⟩) (by assumption) ?_; rotate_left; focus (intro W0 hSw; (try dsimp only at hSw); go_simp; (try with_reducible rfl)); (try simp only [Act.put, List.setIfInBounds_toArray, List.set_cons_zero, List.set_cons_succ])
      refine wpAnyH_take (i := 3) (oi := ⟨some 20, _, _, _, _, _⟩) (v := ?_) rfl (by kernel_rfl) (by kernel_rfl) (by kernel_rfl) (fun _ _ _ h => h) (Or.inl ⟨by kernel_rfl, ?_⟩) (by assumption) ?_; rotate_left; focus (intro W0 hSw; (try dsimp only at hSw); go_simp; (try with_reducible rfl)); (try simp only [Act.put, List.setIfInBounds_toArray, List.set_cons_zero, List.set_cons_succ])
      refine wpAnyH_take (i := 4) (oi := ⟨some 21, _, _, _, _, _⟩) (v := ?_) rfl (by kernel_rfl) (by kernel_rfl) (by kernel_rfl) (fun _ _ _ h => h) (Or.inl ⟨by kernel_rfl, ?_⟩) (by assumption) ?_; rotate_left; focus (intro W0 hSw; (try dsimp only at hSw); go_simp; (try with_reducible rfl)); (try simp only [Act.put, List.setIfInBounds_toArray, List.set_cons_zero, List.set_cons_succ])
      refine wpAnyH_take (i := 5) (oi := ⟨some 22, _, _, _, _, _⟩) (v := ?_) rfl (by kernel_rfl) (by kernel_rfl) (by kernel_rfl) (fun _ _ _ h => h) (Or.inl ⟨by kernel_rfl, ?_⟩) (by assumption) ?_; rotate_left; focus (intro W0 hSw; (try dsimp only at hSw); go_simp; (try with_reducible rfl)); (try simp only [Act.put, List.setIfInBounds_toArray, List.set_cons_zero, List.set_cons_succ])
      refine wpAnyH_take (i := 6) (oi := ⟨some 23, _, _, _, _, _⟩) (v := ?_) rfl (by kernel_rfl) (by kernel_rfl) (by kernel_rfl) (fun _ _ _ h => h) (Or.inl ⟨by kernel_rfl, ?_⟩) (by assumption) ?_; rotate_left; focus (intro W0 hSw; (try dsimp only at hSw); go_simp; (try with_reducible rfl)); (try simp only [Act.put, List.setIfInBounds_toArray, List.set_cons_zero, List.set_cons_succ])
      refine wpAnyH_take (i := 7) (oi := ⟨some 24, _, _, _, _, _⟩) (v := ?_) rfl (by kernel_rfl) (by kernel_rfl) (by kernel_rfl) (fun _ _ _ h => h) (Or.inl ⟨by kernel_rfl, ?_⟩) (by assumption) ?_; rotate_left; focus (intro W0 hSw; (try dsimp only at hSw); go_simp; (try with_reducible rfl)); (try simp only [Act.put, List.setIfInBounds_toArray, List.set_cons_zero, List.set_cons_succ])
      refine wpAnyH_take (i := 8) (oi := ⟨some 25, _, _, _, _, _⟩) (v := ?_) rfl (by kernel_rfl) (by kernel_rfl) (by kernel_rfl) (fun _ _ _ h => h) (Or.inl ⟨by kernel_rfl, ?_⟩) (by assumption) ?_; rotate_left; focus (intro W0 hSw; (try dsimp only at hSw); go_simp; (try with_reducible rfl)); (try simp only [Act.put, List.setIfInBounds_toArray, List.set_cons_zero, List.set_cons_succ])
      refine wpAnyH_done (by kernel_rfl) ?_ _; (try simp only [Act.put, List.setIfInBounds_toArray, List.set_cons_zero, List.set_cons_succ])
      obtain ⟨k1, k2, kB, kz⟩ := hHeld
      go_wp2
      (go_roundw; (case rel => exact ⟨k + 1, by omega, by go_num, kB⟩); (case measure => simp [intOf]; omega))
    · go_wp2
      go_ret
      exact ⟨rfl, hbl⟩
set_option maxRecDepth 100000 in
set_option maxHeartbeats 1000000 in
theorem laws_eqInt64SS (so1 so2 : Option Addr) (n cap1 cap2 : Nat) (R : Nat → List Int) (w : World) (h1 : RdT w so1 n R) (h2 : RdT w so2 n R) (hn : n ≤ 1048576) (hR : ∀ j, j < n → (R j).length ≤ 1048576) :
    Calls Try.prog 52 #[.slice so1 n cap1, .slice so2 n cap2] w fun e w' => e = .returned (.bool true) ∧ Below w.heap.size w w' := by
  obtain ⟨A1, C1, r1, q1⟩ := h1
  obtain ⟨A2, C2, r2, q2⟩ := h2
  have Q1 := hide q1
  have Q2 := hide q2
  clear q1 q2
  go_enter Try.func52, Try.ntmps52
  go_wp2
  go_loopw [5] (fun i wr => ∃ k : Nat, k ≤ n ∧ i = .int .i64 k ∧ Below w.heap.size w wr) (fun i _ => n - (intOf i).toNat)
  case atStart => exact ⟨0, Nat.zero_le _, rfl, (by repeat (first | with_reducible exact Below.refl _ _ | with_reducible assumption | with_reducible refine Below.drew ?_ | with_reducible refine below_drewN ?_ _ | with_reducible refine Below.setCell ?_ (by first | exact Nat.le_refl _ | (simp; done) | (simp; omega) | (dsimp only; omega)) _ | with_reducible refine Below.alloc ?_ (by first | exact Nat.le_refl _ | (simp; done) | (simp; omega) | (simp at *; omega)) _ | with_reducible refine bstep ?_ (by assumption)))⟩
  case round =>
    obtain ⟨k, hk, rfl, hbl⟩ := hrel
    have hsz := hbl.size
    by_cases hlt : k < n
    · obtain ⟨b, o, rfl, hbs, c0⟩ := (RowAt.later hbl r1).at1 k hlt
      obtain ⟨b2, o2, rfl, hbs2, d0⟩ := (RowAt.later hbl r2).at1 k hlt
      simp only [vS] at c0 d0
      have hi1 : (0 : Int) ≤ (k : Int) := by omega
      have hi2 : (k : Int) < (n : Int) := by omega
      have HK := hide (fun W hb => laws_eqInt64S (A1 k) (A2 k) (R k).length (C1 k) (C2 k) _ W (RowAt.v1 (RowAt.later (w := w) hb (Q1.out k hlt))) (RowAt.v1 (RowAt.later (w := w) hb (Q2.out k hlt))) (hR k hlt))
      go_upto_region 6 with fail
      refine wp_region_held_drew (S := (fun W => W.cell? ⟨b, o + k, none⟩ = some ((Value.slice (A1 k) (R k).length (C1 k))) ∧ W.cell? ⟨b2, o2 + k, none⟩ = some ((Value.slice (A2 k) (R k).length (C2 k))) ∧ Below w.heap.size w W ∧ w.heap.size + 0 ≤ W.heap.size)) (by kernel_rfl) ?_ (fun hHeld => ?_)
      · exact ⟨(by go_simp; done), (by go_simp; done), (by repeat (first | with_reducible exact Below.refl _ _ | with_reducible assumption | with_reducible refine Below.drew ?_ | with_reducible refine below_drewN ?_ _ | with_reducible refine Below.setCell ?_ (by first | exact Nat.le_refl _ | (simp; done) | (simp; omega) | (dsimp only; omega)) _ | with_reducible refine Below.alloc ?_ (by first | exact Nat.le_refl _ | (simp; done) | (simp; omega) | (simp at *; omega)) _ | with_reducible refine bstep ?_ (by assumption))), (by first | (simp; done) | (simp; omega) | omega)⟩
      refine wpAnyH_take (i := 0) (oi := ⟨some 17, _, _, _, _, _⟩) (v := ?_) rfl (by kernel_rfl) (by kernel_rfl) (by kernel_rfl) (fun _ _ _ h => h) (Or.inl ⟨by kernel_rfl, ?_⟩) (by assumption) ?_; rotate_left; focus (intro W0 hSw; (try dsimp only at hSw); go_simp; (try with_reducible rfl)); (try simp only [Act.put, List.setIfInBounds_toArray, List.set_cons_zero, List.set_cons_succ])
      refine wpAnyH_take (i := 1) (oi := ⟨some 18, _, _, _, _, _⟩) (v := ?_) rfl (by kernel_rfl) (by kernel_rfl) (by kernel_rfl) (fun _ _ _ h => h) (Or.inl ⟨by kernel_rfl, ?_⟩) (by assumption) ?_; rotate_left; focus (intro W0 hSw; (try dsimp only at hSw); go_simp; (try with_reducible rfl)); (try simp only [Act.put, List.setIfInBounds_toArray, List.set_cons_zero, List.set_cons_succ])
      refine wpAnyH_take (i := 2) (oi := ⟨some 19, _, _, _, _, _⟩) (v := ?_) rfl (by kernel_rfl) (by kernel_rfl) (by kernel_rfl) (fun _ _ _ h => h) (Or.inl ⟨by kernel_rfl, ?_⟩) (by assumption) ?_; rotate_left; focus (intro W0 hSw; (try dsimp only at hSw); go_simp; (try with_reducible rfl)); (try simp only [Act.put, List.setIfInBounds_toArray, List.set_cons_zero, List.set_cons_succ])
      refine wpAnyH_take (i := 3) (oi := ⟨some 20, _, _, _, _, _⟩) (v := ?_) rfl (by kernel_rfl) (by kernel_rfl) (by kernel_rfl) (fun _ _ _ h => h) (Or.inl ⟨by kernel_rfl, ?_⟩) (by assumption) ?_; rotate_left; focus (intro W0 hSw; (try dsimp only at hSw); go_simp; (try with_reducible rfl)); (try simp only [Act.put, List.setIfInBounds_toArray, List.set_cons_zero, List.set_cons_succ])
      refine wpAnyH_take (i := 4) (oi := ⟨some 21, _, _, _, _, _⟩) (v := ?_) rfl (by kernel_rfl) (by kernel_rfl) (by kernel_rfl) (fun _ _ _ h => h) (Or.inl ⟨by kernel_rfl, ?_⟩) (by assumption) ?_; rotate_left; focus (intro W0 hSw; (try dsimp only at hSw); go_simp; (try with_reducible rfl)); (try simp only [Act.put, List.setIfInBounds_toArray, List.set_cons_zero, List.set_cons_succ])
      refine wpAnyH_take (i := 5) (oi := ⟨some 22, _, _, _, _, _⟩) (v := ?_) rfl (by kernel_rfl) (by kernel_rfl) (by kernel_rfl) (fun _ _ _ h => h) (Or.inl ⟨by kernel_rfl, ?_⟩) (by assumption) ?_; rotate_left; focus (intro W0 hSw; (try dsimp only at hSw); go_simp; (try with_reducible rfl)); (try simp only [Act.put, List.setIfInBounds_toArray, List.set_cons_zero, List.set_cons_succ])
      refine wpAnyH_take (i := 6) (oi := ⟨some 23, _, _, _, _, _⟩) (v := ?_) rfl (by kernel_rfl) (by kernel_rfl) (by kernel_rfl) (fun _ _ _ h => h) (Or.inl ⟨by kernel_rfl, ?_⟩) (by assumption) ?_; rotate_left; focus (intro W0 hSw; (try dsimp only at hSw); go_simp; (try with_reducible rfl)); (try simp only [Act.put, List.setIfInBounds_toArray, List.set_cons_zero, List.set_cons_succ])
      refine wpAnyH_take (i := 7) (oi := ⟨some 24, _, _, _, _, _⟩) (v := ?_) rfl (by kernel_rfl) (by kernel_rfl) (by kernel_rfl) (fun _ _ _ h => h) (Or.inl ⟨by kernel_rfl, ?_⟩) (by assumption) ?_; rotate_left; focus (intro W0 hSw; (try dsimp only at hSw); go_simp; (try with_reducible rfl)); (try simp only [Act.put, List.setIfInBounds_toArray, List.set_cons_zero, List.set_cons_succ])
      refine wpAnyH_ready (rs := [8]) (by kernel_rfl) (by simp) ?_; refine (AllReadyH.cons (o := ⟨some 25, _, _, _, _, _⟩) rfl (fun K hK => ?_) AllReadyH.nil)
      go_simp; (go_at_call 108; (with_reducible refine (HK.out _ (by repeat (first | with_reducible exact Below.refl _ _ | with_reducible assumption | with_reducible refine Below.drew ?_ | with_reducible refine below_drewN ?_ _ | with_reducible refine Below.setCell ?_ (by first | exact Nat.le_refl _ | (simp; done) | (simp; omega) | (dsimp only; omega)) _ | with_reducible refine Below.alloc ?_ (by first | exact Nat.le_refl _ | (simp; done) | (simp; omega) | (simp at *; omega)) _ | with_reducible refine bstep ?_ (by assumption)))).mono ?_); rintro e w9 ⟨rfl, hb⟩; have hzz := hb.size)
      all_goals (try go_wp2_with fail)
      refine hK.out _ _ ?_ (fun hH2 => ?_)
      · (try dsimp only); first | (obtain ⟨k1, k2, kB, kz⟩ := hHeld; exact ⟨cell_later hb k1, cell_later hb k2, bstep kB hb, bsize kz hb⟩) | (obtain ⟨k1, k2, kB, kz⟩ := hHeld; exact ⟨k1, k2, kB, kz⟩)
      clear hK K hHeld; (have hHeld := hH2); clear hH2; (try simp only [Act.put, List.setIfInBounds_toArray, List.set_cons_zero, List.set_cons_succ])
      refine wpAnyH_take (i := 9) (oi := ⟨some 26, _, _, _, _, _⟩) (v := ?_) rfl (by kernel_rfl) (by kernel_rfl) (by kernel_rfl) (fun _ _ _ h => h) (Or.inl ⟨by kernel_rfl, ?_⟩) (by assumption) ?_; rotate_left; focus (intro W0 hSw; (try dsimp only at hSw); go_simp; (try with_reducible rfl)); (try simp only [Act.put, List.setIfInBounds_toArray, List.set_cons_zero, List.set_cons_succ])
      refine wpAnyH_done (by kernel_rfl) ?_ _; (try simp only [Act.put, List.setIfInBounds_toArray, List.set_cons_zero, List.set_cons_succ])
      obtain ⟨k1, k2, kB, kz⟩ := hHeld
      go_wp2
      (go_roundw; (case rel => exact ⟨k + 1, by omega, by go_num, kB⟩); (case measure => simp [intOf]; omega))
    · go_wp2
      go_ret
      exact ⟨rfl, hbl⟩
theorem laws_markInt64S (g n cap c : Nat) (w : World) (hm : Mine w g n) (hn : n ≤ 1048576) (hc : c ≤ 1048576) :
    Calls Try.prog 109 #[.slice (some ⟨g, 0, none⟩) n cap, .int .i64 c] w fun e w' => e = .returned (.int .i64 ((c + n : Nat) : Int)) ∧ w.grownBy w' (some g) ∧ Mine w' g n ∧ ∀ q, q < n → w'.cell? ⟨g, q, none⟩ = some (.int .i64 ((c + q : Nat) : Int)) := by
  go_enter Try.func109, Try.ntmps109
  go_wp2
  go_loopw [1, 5] (fun kk i wr => ∃ k : Nat, k ≤ n ∧ i = .int .i64 k ∧ kk = .int .i64 ((c + k : Nat) : Int) ∧ Mine wr g n ∧ w.grownBy wr (some g) ∧ Hid (∀ q, q < k → wr.cell? ⟨g, q, none⟩ = some (.int .i64 ((c + q : Nat) : Int)))) (fun _ i _ => n - (intOf i).toNat)
  case atStart => exact ⟨0, Nat.zero_le _, rfl, rfl, hm, World.grownBy.refl _ _, hide fun q hq => absurd hq (Nat.not_lt_zero _)⟩
  case round =>
    obtain ⟨k, hk, rfl, rfl, hmine, hgr, HQ⟩ := hrel
    by_cases hlt : k < n
    · obtain ⟨x0, m0, f0⟩ := hmine.cells k (by omega)
      have Hmine := hide hmine
      have Hgr := hide hgr
      have R := hide (show ∀ q, q < k + 1 → (wr.setCell ⟨g, k, none⟩ (.int .i64 ((c + k : Nat) : Int))).cell? ⟨g, q, none⟩ = some (.int .i64 ((c + q : Nat) : Int)) from fun q hq => by
        by_cases e : q = k
        · subst e; exact World.cell?_setCell_same _ _ _ m0
        · exact (World.cell?_setCell_other _ _ _ _ (fun k => e (by injection k with _ k; exact k.symm))).trans (HQ.out q (by omega)))
      clear hmine hgr HQ
      go_wp2
      go_roundw
      case rel => exact ⟨k + 1, by omega, by go_num, by go_num, Hmine.out.set, grown_set Hgr.out, R⟩
      case measure => simp [intOf]; omega
    · obtain rfl : k = n := by omega
      go_wp2
      go_ret
      exact ⟨rfl, hgr, hmine, HQ.out⟩
theorem laws_heldInt64S (so : Option Addr) (n cap c : Nat) (w : World) (h : RowAt w so n 1 (v1 fun q => ((c + q : Nat) : Int))) (hn : n ≤ 1048576) (hc : c ≤ 1048576) :
    Calls Try.prog 110 #[.slice so n cap, .int .i64 c] w fun e w' => e = .returned (.int .i64 ((c + n : Nat) : Int)) ∧ Below w.heap.size w w' := by
  go_enter Try.func110, Try.ntmps110
  go_wp2
  go_loopw [1, 5] (fun kk i wr => ∃ k : Nat, k ≤ n ∧ i = .int .i64 k ∧ kk = .int .i64 ((c + k : Nat) : Int) ∧ Below w.heap.size w wr) (fun _ i _ => n - (intOf i).toNat)
  case atStart => exact ⟨0, Nat.zero_le _, rfl, rfl, (by repeat (first | with_reducible exact Below.refl _ _ | with_reducible assumption | with_reducible refine Below.drew ?_ | with_reducible refine below_drewN ?_ _ | with_reducible refine Below.setCell ?_ (by first | exact Nat.le_refl _ | (simp; done) | (simp; omega) | (dsimp only; omega)) _ | with_reducible refine Below.alloc ?_ (by first | exact Nat.le_refl _ | (simp; done) | (simp; omega) | (simp at *; omega)) _ | with_reducible refine bstep ?_ (by assumption)))⟩
  case round =>
    obtain ⟨k, hk, rfl, rfl, hbl⟩ := hrel
    by_cases hlt : k < n
    · obtain ⟨b, o, rfl, hbs, c0⟩ := (RowAt.later hbl h).at1 k hlt
      simp only [v1] at c0
      go_wp2
      go_roundw
      case rel => exact ⟨k + 1, by omega, by go_num, by go_num, (by repeat (first | with_reducible exact Below.refl _ _ | with_reducible assumption | with_reducible refine Below.drew ?_ | with_reducible refine below_drewN ?_ _ | with_reducible refine Below.setCell ?_ (by first | exact Nat.le_refl _ | (simp; done) | (simp; omega) | (dsimp only; omega)) _ | with_reducible refine Below.alloc ?_ (by first | exact Nat.le_refl _ | (simp; done) | (simp; omega) | (simp at *; omega)) _ | with_reducible refine bstep ?_ (by assumption)))⟩
      case measure => simp [intOf]; omega
    · obtain rfl : k = n := by omega
      go_wp2
      go_ret
      exact ⟨rfl, hbl⟩

/-- How many integers lie ahead of row i. -/
def cntT (R : Nat → List Int) : Nat → Nat
  | 0 => 0
  | k + 1 => cntT R k + (R k).length
theorem cntT_le {R : Nat → List Int} {n : Nat} (h : ∀ j, j < n → (R j).length ≤ 16) : ∀ k, k ≤ n → cntT R k ≤ 16 * k := by
  intro k
  induction k with
  | zero => intro _; exact Nat.le_refl _
  | succ k ih => intro hk; have := ih (by omega); have := h k (by omega); simp only [cntT]; omega
/-- A table that bears the marks. -/
def MkT (w : World) (so : Option Addr) (n : Nat) (R : Nat → List Int) : Prop :=
  ∃ (A : Nat → Option Addr) (C : Nat → Nat), RowAt w so n 1 (vS A R C) ∧ ∀ i, i < n → RowAt w (A i) (R i).length 1 (v1 fun q => ((1 + cntT R i + q : Nat) : Int))
theorem MkT.later {w W : World} {so : Option Addr} {n : Nat} {R : Nat → List Int} (h : MkT w so n R) (hb : Below w.heap.size w W) : MkT W so n R := by
  obtain ⟨A, C, h1, h2⟩ := h
  exact ⟨A, C, h1.later hb, fun i hi => (h2 i hi).later hb⟩
theorem OwT.mono {w : World} {B B' : Nat} {so : Option Addr} {n : Nat} {R : Nat → List Int} (h : OwT w B so n R) (hB : B' ≤ B) : OwT w B' so n R := by
  rcases h with h | ⟨b, G, C, h1, h2, h3⟩
  · exact .inl h
  · exact .inr ⟨b, G, C, h1, by omega, h3⟩
theorem OwT.grown {w W : World} {B g : Nat} {so : Option Addr} {n : Nat} {R : Nat → List Int} (h : OwT w B so n R) (hg : w.grownBy W (some g)) (hl : g < B) : OwT W B so n R := by
  rcases h with h | ⟨b, G, C, h1, h2, h3, h4, h5, h6⟩
  · exact .inl h
  · refine .inr ⟨b, G, C, h1, h2, Nat.lt_of_lt_of_le h3 hg.size, fun j hj => (gcell hg b j h3 (by omega)).trans (h4 j hj), fun j hj => ?_, h6⟩
    obtain ⟨a1, a2, a3⟩ := h5 j hj
    exact ⟨a1, Nat.lt_of_lt_of_le a2 hg.size, fun q hq => ⟨(gcell hg _ q a2 (by omega)).trans (a3 q hq).1, (gfroz hg _ q a2 (by omega)).trans (a3 q hq).2⟩⟩
theorem OwT.all {w : World} {B : Nat} {so : Option Addr} {n : Nat} {R : Nat → List Int} (h : OwT w B so n R) : ∃ (b : Nat) (G C : Nat → Nat), (0 < n → so = some ⟨b, 0, none⟩ ∧ B ≤ b ∧ b < w.heap.size) ∧ (∀ j, j < n → w.cell? ⟨b, j, none⟩ = some (.slice (some ⟨G j, 0, none⟩) (R j).length (C j))) ∧
    (∀ j, j < n → b < G j ∧ G j < w.heap.size ∧ Mine w (G j) (R j).length) ∧ ∀ i j, i < n → j < n → i ≠ j → G i ≠ G j := by
  rcases h with rfl | ⟨b, G, C, h1, h2, h3, h4, h5, h6⟩
  · exact ⟨0, fun _ => 0, fun _ => 0, fun h => absurd h (Nat.lt_irrefl _), fun j hj => absurd hj (Nat.not_lt_zero _), fun j hj => absurd hj (Nat.not_lt_zero _), fun i j hi => absurd hi (Nat.not_lt_zero _)⟩
  · exact ⟨b, G, C, fun _ => ⟨h1, h2, h3⟩, h4, fun j hj => ⟨(h5 j hj).1, (h5 j hj).2.1, fun q hq => ⟨⟨_, ((h5 j hj).2.2 q hq).1⟩, ((h5 j hj).2.2 q hq).2⟩⟩, h6⟩
theorem mine_grown {w W : World} {h m g : Nat} (k : Mine w h m) (hg : w.grownBy W (some g)) (hn : h < w.heap.size) (hne : ¬ h = g) : Mine W h m := fun j hj => by
  obtain ⟨⟨v, e⟩, f⟩ := k j hj
  exact ⟨⟨v, (gcell hg h j hn hne).trans e⟩, (gfroz hg h j hn hne).trans f⟩
set_option maxHeartbeats 1000000 in
theorem laws_markInt64SS (so : Option Addr) (B n cap : Nat) (R : Nat → List Int) (w : World) (h : OwT w B so n R) (hn : n ≤ 16) (hR : ∀ j, j < n → (R j).length ≤ 16) (hBw : B ≤ w.heap.size) :
    Calls Try.prog 55 #[.slice so n cap, .int .i64 1] w fun e w' => e = .returned (.int .i64 ((1 + cntT R n : Nat) : Int)) ∧ Below B w w' ∧ MkT w' so n R := by
  obtain ⟨b, G, C, h1, h2, h3, h6⟩ := h.all
  have HC := hide (cntT_le hR)
  go_enter Try.func55, Try.ntmps55
  go_wp2
  go_loopw [1, 5] (fun kk i wr => ∃ k c9 : Nat, k ≤ n ∧ i = .int .i64 k ∧ Hid (c9 = 1 + cntT R k) ∧ kk = .int .i64 (c9 : Int) ∧ w.heap.size ≤ wr.heap.size ∧ Hid (∀ j, j < n → wr.cell? ⟨b, j, none⟩ = some (.slice (some ⟨G j, 0, none⟩) (R j).length (C j))) ∧ Hid (∀ j, j < n → Mine wr (G j) (R j).length) ∧ Hid (∀ j, j < k → ∀ q, q < (R j).length → wr.cell? ⟨G j, q, none⟩ = some (.int .i64 ((1 + cntT R j + q : Nat) : Int))) ∧ Below B w wr) (fun _ i _ => n - (intOf i).toNat)
  case atStart => exact ⟨0, 1, Nat.zero_le _, rfl, hide rfl, rfl, Nat.le_refl _, hide h2, hide fun j hj => (h3 j hj).2.2, hide fun j hj => absurd hj (Nat.not_lt_zero _), Below.refl _ _⟩
  case round =>
    obtain ⟨k, c9, hk, rfl, HC9, rfl, hsz, H1, H2, H3, hbl⟩ := hrel
    by_cases hlt : k < n
    · obtain ⟨rfl, hb1, hb2⟩ := h1 (by omega)
      have c0 := H1.out k hlt
      have hck : c9 ≤ 1048576 := by have := HC.out k hk; have := HC9.out; omega
      have hrk := hR k hlt
      have hi1 : (0 : Int) ≤ (k : Int) := by omega
      have hi2 : (k : Int) < (n : Int) := by omega
      have H3' := hide h3
      have H6 := hide h6
      have Hbl := hide hbl
      clear h1 h2 h3 h6 hbl
      go_wp2_with (go_at_call 109; (with_reducible refine (laws_markInt64S _ _ _ c9 _ (H2.out k hlt) (by omega) (by omega)).mono ?_); rintro e w9 ⟨rfl, hgr, hm9, hq9⟩)
      have key : ∀ j, j < n → ¬ j = k → ¬ G j = G k := fun j hj hne => H6.out j k hj hlt hne
      have hgk := H3'.out k hlt
      go_roundw
      case rel =>
        refine ⟨k + 1, c9 + (R k).length, by omega, by go_num, hide (by rw [cntT, HC9.out, Nat.add_assoc]), rfl, Nat.le_trans hsz hgr.size, hide fun j hj => (gcell hgr b j (by omega) (by omega)).trans (H1.out j hj), hide fun j hj => ?_, hide fun j hj q hq => ?_, Below.grown Hbl.out hgr (by omega) (by intro k hk; simp at hk; omega)⟩
        · by_cases e : j = k
          · subst e; exact hm9
          · exact mine_grown (H2.out j hj) hgr (by have := (H3'.out j hj).2.1; omega) (key j hj e)
        · by_cases e : j = k
          · subst e; rw [← HC9.out]; exact hq9 q hq
          · exact (gcell hgr _ q (by have := (H3'.out j (by omega)).2.1; omega) (key j (by omega) e)).trans (H3.out j (by omega) q hq)
      case measure => simp [intOf]; omega
    · obtain rfl : k = n := by omega
      go_wp2
      go_ret
      refine ⟨by rw [HC9.out]; rfl, hbl, fun j => some ⟨G j, 0, none⟩, C, fun i hi => ⟨b, 0, (h1 (by omega)).1, fun j hj => ?_⟩, fun i hi q hq => ⟨G i, 0, rfl, fun j hj => ?_⟩⟩
      · obtain rfl : j = 0 := by omega
        rw [Nat.zero_add, Nat.mul_one, Nat.add_zero]; exact H1.out i hi
      · obtain rfl : j = 0 := by omega
        rw [Nat.zero_add, Nat.mul_one, Nat.add_zero]; exact H3.out i hi q hq
set_option maxHeartbeats 1000000 in
theorem laws_heldInt64SS (so : Option Addr) (n cap : Nat) (R : Nat → List Int) (w : World) (h : MkT w so n R) (hn : n ≤ 16) (hR : ∀ j, j < n → (R j).length ≤ 16) :
    Calls Try.prog 56 #[.slice so n cap, .int .i64 1] w fun e w' => e = .returned (.int .i64 ((1 + cntT R n : Nat) : Int)) ∧ Below w.heap.size w w' := by
  obtain ⟨A, C, r1, q1⟩ := h
  have HC := hide (cntT_le hR)
  go_enter Try.func56, Try.ntmps56
  go_wp2
  go_loopw [1, 5] (fun kk i wr => ∃ k c9 : Nat, k ≤ n ∧ i = .int .i64 k ∧ Hid (c9 = 1 + cntT R k) ∧ kk = .int .i64 (c9 : Int) ∧ Below w.heap.size w wr) (fun _ i _ => n - (intOf i).toNat)
  case atStart => exact ⟨0, 1, Nat.zero_le _, rfl, hide rfl, rfl, (by repeat (first | with_reducible exact Below.refl _ _ | with_reducible assumption | with_reducible refine Below.drew ?_ | with_reducible refine below_drewN ?_ _ | with_reducible refine Below.setCell ?_ (by first | exact Nat.le_refl _ | (simp; done) | (simp; omega) | (dsimp only; omega)) _ | with_reducible refine Below.alloc ?_ (by first | exact Nat.le_refl _ | (simp; done) | (simp; omega) | (simp at *; omega)) _ | with_reducible refine bstep ?_ (by assumption)))⟩
  case round =>
    obtain ⟨k, c9, hk, rfl, HC9, rfl, hbl⟩ := hrel
    by_cases hlt : k < n
    · obtain ⟨b, o, rfl, hbs, c0⟩ := (RowAt.later hbl r1).at1 k hlt
      simp only [vS] at c0
      have hck : c9 ≤ 1048576 := by have := HC.out k hk; have := HC9.out; omega
      have hrk := hR k hlt
      have hi1 : (0 : Int) ≤ (k : Int) := by omega
      have hi2 : (k : Int) < (n : Int) := by omega
      go_wp2_with (go_at_call 110; (with_reducible refine (laws_heldInt64S _ _ _ c9 _ (RowAt.later hbl (HC9.out ▸ q1 k hlt)) (by omega) (by omega)).mono ?_); rintro e w9 ⟨rfl, hb⟩)
      go_roundw
      case rel => exact ⟨k + 1, c9 + (R k).length, by omega, by go_num, hide (by rw [cntT, HC9.out, Nat.add_assoc]), rfl, bstep hbl hb⟩
      case measure => simp [intOf]; omega
    · obtain rfl : k = n := by omega
      go_wp2
      go_ret
      exact ⟨by rw [HC9.out]; rfl, hbl⟩
theorem row6_of {w : World} {so : Option Addr} {len : Nat} (h : ∀ i, i < len → ∃ b o cs', so = some ⟨b, o, none⟩ ∧ (∃ (x y p q l : Int) (t : Bool), cs' = [.int .i64 x, .int .i64 y, .int .i64 p, .int .i64 q, .int .i64 l, .bool t]) ∧ ∀ j, j < 6 → w.cell? ⟨b, o + i * 6 + j, none⟩ = cs'[j]?) :
    ∃ (X Y H K L : Nat → Int) (U : Nat → Bool), RowAt w so len 6 (v6 X Y H K L U) := by
  have h' : ∀ i : Nat, ∃ q : (Int × Int × Int) × (Int × Int × Bool), i < len → ∃ b o, so = some ⟨b, o, none⟩ ∧ ∀ j, j < 6 → w.cell? ⟨b, o + i * 6 + j, none⟩ = [Value.int .i64 q.1.1, .int .i64 q.1.2.1, .int .i64 q.1.2.2, .int .i64 q.2.1, .int .i64 q.2.2.1, .bool q.2.2.2][j]? := fun i => by
    by_cases hi : i < len
    · obtain ⟨b, o, _, e, ⟨x, y, p, q, l, t, rfl⟩, k⟩ := h i hi
      exact ⟨((x, y, p), (q, l, t)), fun _ => ⟨b, o, e, k⟩⟩
    · exact ⟨((0, 0, 0), (0, 0, false)), fun k => absurd k hi⟩
  obtain ⟨q, hq⟩ := Classical.axiomOfChoice h'
  refine ⟨fun i => (q i).1.1, fun i => (q i).1.2.1, fun i => (q i).1.2.2, fun i => (q i).2.1, fun i => (q i).2.2.1, fun i => (q i).2.2.2, fun i hi => ?_⟩
  obtain ⟨b, o, e, k⟩ := hq i hi
  refine ⟨b, o, e, fun j hj => (k j hj).trans ?_⟩
  rcases (by omega : j = 0 ∨ j = 1 ∨ j = 2 ∨ j = 3 ∨ j = 4 ∨ j = 5) with rfl | rfl | rfl | rfl | rfl | rfl <;> simp [v6]
open Go.ChangeShapes Go.WideShapes Go.ChangeAt Go.Deep in
set_option maxRecDepth 100000 in
theorem op_boats {H : Type} {enc : TypeId × Value → H} {w : World} {base : Nat} {spare : Nat → Bool} {held : Bool} {r : Reach} {b0 : Nat} {v : Value} {d : DataW H} {p : List MemPlace}
    (hv : Value.okWide Try.prog w r b0 91 v) (h : DataW.Trod enc Try.prog w base spare held 91 v d p) :
    ∃ (so : Option Addr) (n cap : Nat) (X Y H K L : Nat → Int) (U : Nat → Bool), v = .slice so n cap ∧ n ≤ maxLen ∧ RowAt w so n 6 (v6 X Y H K L U) := by
  obtain ⟨a, len, cap, rfl⟩ := okWide_slice Try.underlying91 hv
  obtain ⟨n, h⟩ := h
  obtain ⟨so, ln, cp, e, hl, hr⟩ := open_row (Q := fun cs => ∃ (x y p q l : Int) (t : Bool), cs = [.int .i64 x, .int .i64 y, .int .i64 p, .int .i64 q, .int .i64 l, .bool t]) Try.underlying91 Try.cBoat (by decide) (fun k => by
    obtain ⟨a, b, c, d, l, t, e⟩ := rd_boat (fun h => rd_hull Try.underlying2 Try.underlying52 Try.cPoint Try.cInt ⟨rfl, rfl⟩ ⟨rfl, rfl⟩ Try.underlying54 Try.cHull ⟨rfl, rfl⟩ ⟨rfl, rfl⟩ ⟨rfl, rfl⟩ h) Try.underlying4 Try.underlying56 Try.cBoat Try.cHull Try.cBool ⟨rfl, rfl⟩ ⟨rfl, rfl⟩ k
    exact ⟨a, b, c, d, l, t, e⟩) h
  simp [Value.cells] at e
  obtain ⟨rfl, rfl, rfl⟩ := e
  obtain ⟨X, Y, H', K, L, U, R⟩ := row6_of hr
  exact ⟨_, _, _, X, Y, H', K, L, U, rfl, hl, R⟩
end Go.Proofs.Ytnnjfnbdljakmaa
