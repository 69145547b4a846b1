/- Walks: tracks that came in are copied, compared, measured. -/
import Derived.Test.YtlllfklehbjneaaDoorSl
import Derived.Test.YtlllfklehbjneaaDoorPt
import Derived.Test.YtlllfklehbjneaaDoorBm
import Derived.Test.YtlllfklehbjneaaDoorA
import Derived.Deep.RegionHeld3
import Derived.Deep.DeepCutAuto
namespace Go.Proofs.YtlllfklehbjneaaDoor
open Go.RowKit

/-- The copy of n elements of c cells: a row of the call's own. -/
def Copied (w : World) (n c : Nat) (V : Nat → Nat → Value) (e : Ending) (w' : World) : Prop :=
  ∃ g, e = .returned (.slice (some ⟨g, 0, none⟩) n n) ∧ RowAt w' (some ⟨g, 0, none⟩) n c V ∧ Mine w' g (n * c) ∧ w.heap.size ≤ g ∧ g < w'.heap.size ∧ Below w.heap.size w w'
/-- The same, as the one field of a struct. -/
def Copied1 (w : World) (n c : Nat) (V : Nat → Nat → Value) (e : Ending) (w' : World) : Prop :=
  ∃ g, e = .returned (.agg #[.slice (some ⟨g, 0, none⟩) n n]) ∧ RowAt w' (some ⟨g, 0, none⟩) n c V ∧ Mine w' g (n * c) ∧ w.heap.size ≤ g ∧ g < w'.heap.size ∧ Below w.heap.size w w'
theorem laws_toFix (a x y : Int) (w : World) :
    Calls Tryd.prog 76 #[.agg #[.int .i64 a, .int .i64 x, .int .i64 y]] w fun e w' => e = .returned (.agg #[.int .i64 a, .int .i64 x, .int .i64 y]) ∧ Below w.heap.size w w' := by
  go_enter Tryd.func76, Tryd.ntmps76
  go_wp2
  simp [bodyPost, results, Tryd.results76, go_sem, *]
  exact (by repeat (first | with_reducible exact Below.refl _ _ | with_reducible assumption | with_reducible refine Below.drew ?_ | with_reducible refine below_drewN ?_ _ | with_reducible refine Below.setCell ?_ (by first | exact Nat.le_refl _ | (simp; done) | (simp; omega) | (dsimp only; omega)) _ | with_reducible refine Below.alloc ?_ (by first | exact Nat.le_refl _ | (simp; done) | (simp; omega) | (simp at *; omega)) _ | with_reducible refine bstep ?_ (by assumption)))
theorem infoFix : (Tryd.prog.info? 101).map (fun i => (i.zero, i.size, i.bytes)) = some (some (.agg #[.int .i64 0, .int .i64 0, .int .i64 0]), 3, 24) := by kernel_rfl
set_option maxRecDepth 100000 in
set_option maxHeartbeats 1000000 in
theorem laws_toFixS (so : Option Addr) (n cap : Nat) (T X Y : Nat → Int) (w : World) (h : RowAt w so n 3 (v3 T X Y)) (hn : n ≤ 1048576) :
    Calls Tryd.prog 42 #[.slice so n cap] w (Copied w n 3 (v3 T X Y)) := by
  obtain ⟨i0, hi, hz0, hz1, hz2⟩ := info_parts infoFix
  have hmk := fun W => run_make_rowN (P := Tryd.prog) 43 101 i0 _ Tryd.underlying43 hi hz0 n (by rw [hz2]; omega) (by omega) W
  have hsz : (madeCells (Value.agg #[.int .i64 0, .int .i64 0, .int .i64 0]).cells (n * i0.size)).size = n * 3 := by rw [size_madeCells, hz1]
  have Hs := hide hsz
  clear hsz hi hz0 hz1 hz2
  go_enter Tryd.func42, Tryd.ntmps42
  go_wp2
  go_loopw [4] (fun i wr => ∃ k : Nat, k ≤ n ∧ i = .int .i64 k ∧ RowAt wr (some ⟨w.heap.size, 0, none⟩) k 3 (v3 T X Y) ∧ Mine wr w.heap.size (n * 3) ∧ w.heap.size < wr.heap.size ∧ Below w.heap.size w wr) (fun i _ => n - (intOf i).toNat)
  case atStart => exact ⟨0, Nat.zero_le _, rfl, row_zero _ _ _ _, mine_make Hs.out, by simp, (by repeat (first | with_reducible exact Below.refl _ _ | with_reducible assumption | with_reducible refine Below.drew ?_ | with_reducible refine below_drewN ?_ _ | with_reducible refine Below.setCell ?_ (by first | exact Nat.le_refl _ | (simp; done) | (simp; omega) | (dsimp only; omega)) _ | with_reducible refine Below.alloc ?_ (by first | exact Nat.le_refl _ | (simp; done) | (simp; omega) | (simp at *; omega)) _ | with_reducible refine bstep ?_ (by assumption)))⟩
  case round =>
    obtain ⟨k, hk, rfl, hrow, hmine, hlt9, hbl⟩ := hrel
    clear hmk
    by_cases hlt : k < n
    · obtain ⟨b, o, rfl, hbs, c0, c1, c2⟩ := (RowAt.later hbl h).at3 k hlt
      obtain ⟨x0, m0, f0⟩ := hmine.cells (k * 3) (by omega)
      obtain ⟨x1, m1, f1⟩ := hmine.cells (k * 3 + 1) (by omega)
      obtain ⟨x2, m2, f2⟩ := hmine.cells (k * 3 + 2) (by omega)
      have Hrow := hide hrow
      have Hmine := hide hmine
      clear hrow hmine
      go_wp2_with (first | (go_at_call 76; (with_reducible refine (laws_toFix _ _ _ _).mono ?_); rintro e w9 ⟨rfl, hb⟩; obtain ⟨hc, hf⟩ := bcell hb; have hz := hb.size; have z0 : w.heap.size < w9.heap.size := (by first | omega | (simp at hz; omega)); have zzb : b < w9.heap.size := (by first | omega | (simp at hz; omega))))
      have R := fill3 (n := n) (Mine.later hb Hmine.out) (RowAt.later hb Hrow.out) hlt
      have M := ((Mine.later hb Hmine.out).set (p := ⟨w.heap.size, k * 3, none⟩) (x := .int .i64 (T k))).set (p := ⟨w.heap.size, k * 3 + 1, none⟩) (x := .int .i64 (X k)) |>.set (p := ⟨w.heap.size, k * 3 + 2, none⟩) (x := .int .i64 (Y k))
      go_roundw
      case rel => exact ⟨k + 1, by omega, by go_num, R, M, by simp; omega, (by repeat (first | with_reducible exact Below.refl _ _ | with_reducible assumption | with_reducible refine Below.drew ?_ | with_reducible refine below_drewN ?_ _ | with_reducible refine Below.setCell ?_ (by first | exact Nat.le_refl _ | (simp; done) | (simp; omega) | (dsimp only; omega)) _ | with_reducible refine Below.alloc ?_ (by first | exact Nat.le_refl _ | (simp; done) | (simp; omega) | (simp at *; omega)) _ | with_reducible refine bstep ?_ (by assumption)))⟩
      case measure => simp [intOf]; omega
    · obtain rfl : k = n := by omega
      go_wp2
      go_ret
      exact ⟨w.heap.size, rfl, hrow, hmine, Nat.le_refl _, hlt9, hbl⟩
theorem row_set {w : World} {g n c : Nat} {V : Nat → Nat → Value} {p : Addr} {x : Value} (r : RowAt w (some ⟨g, 0, none⟩) n c V) (h : p.block ≠ g) : RowAt (w.setCell p x) (some ⟨g, 0, none⟩) n c V :=
  own_row fun i hi j hj => (World.cell?_setCell_other w _ _ x (fun e => h (by rw [e]))).trans (row_own r hi hj)
set_option maxRecDepth 100000 in
set_option maxHeartbeats 1000000 in
theorem laws_toTrack (so : Option Addr) (n cap : Nat) (T X Y : Nat → Int) (w : World) (h : RowAt w so n 3 (v3 T X Y)) (hn : n ≤ 1048576) :
    Calls Tryd.prog 14 #[.agg #[.slice so n cap]] w (Copied1 w n 3 (v3 T X Y)) := by
  go_enter Tryd.func14, Tryd.ntmps14
  go_wp2_with (go_at_call 42; (with_reducible refine (laws_toFixS so n cap T X Y _ (RowAt.later (by repeat (first | with_reducible exact Below.refl _ _ | with_reducible assumption | with_reducible refine Below.drew ?_ | with_reducible refine below_drewN ?_ _ | with_reducible refine Below.setCell ?_ (by first | exact Nat.le_refl _ | (simp; done) | (simp; omega) | (dsimp only; omega)) _ | with_reducible refine Below.alloc ?_ (by first | exact Nat.le_refl _ | (simp; done) | (simp; omega) | (simp at *; omega)) _ | with_reducible refine bstep ?_ (by assumption))) h) hn).mono ?_); rintro e w9 ⟨g, rfl, hrow, hmine, hge, hgl, hb⟩; (simp at hge); obtain ⟨hc, hf⟩ := bcell hb; have hz := hb.size; (simp at hz); have z0 : w.heap.size < w9.heap.size := (by omega); have z1 : w.heap.size + 1 < w9.heap.size := (by omega); have z2 : w.heap.size + 1 + 1 < w9.heap.size := (by omega); have Hrow := hide hrow; have Hmine := hide hmine; clear hrow hmine)
  simp [bodyPost, results, Tryd.results14, go_sem, *]
  exact ⟨g, rfl, row_set (row_set Hrow.out (by dsimp only; omega)) (by dsimp only; omega), Hmine.out.set.set, by omega, by simpa using hgl, (by repeat (first | with_reducible exact Below.refl _ _ | with_reducible assumption | with_reducible refine Below.drew ?_ | with_reducible refine below_drewN ?_ _ | with_reducible refine Below.setCell ?_ (by first | exact Nat.le_refl _ | (simp; done) | (simp; omega) | (dsimp only; omega)) _ | with_reducible refine Below.alloc ?_ (by first | exact Nat.le_refl _ | (simp; done) | (simp; omega) | (simp at *; omega)) _ | with_reducible refine bstep ?_ (by assumption)))⟩
theorem laws_eqFix (a x y c u v : Int) (w : World) :
    Calls Tryd.prog 80 #[.agg #[.int .i64 a, .int .i64 x, .int .i64 y], .agg #[.int .i64 c, .int .i64 u, .int .i64 v]] w fun e w' => e = .returned (.bool (a == c && x == u && y == v)) ∧ Below w.heap.size w w' := by
  go_enter Tryd.func80, Tryd.ntmps80
  go_wp2
  all_goals (go_ret; exact ⟨by simp_all, (by repeat (first | with_reducible exact Below.refl _ _ | with_reducible assumption | with_reducible refine Below.drew ?_ | with_reducible refine below_drewN ?_ _ | with_reducible refine Below.setCell ?_ (by first | exact Nat.le_refl _ | (simp; done) | (simp; omega) | (dsimp only; omega)) _ | with_reducible refine Below.alloc ?_ (by first | exact Nat.le_refl _ | (simp; done) | (simp; omega) | (simp at *; omega)) _ | with_reducible refine bstep ?_ (by assumption)))⟩)
set_option maxRecDepth 100000 in
set_option maxHeartbeats 1000000 in
theorem laws_eqFixS (so1 so2 : Option Addr) (n cap1 cap2 : Nat) (T X Y : Nat → Int) (w : World) (h1 : RowAt w so1 n 3 (v3 T X Y)) (h2 : RowAt w so2 n 3 (v3 T X Y)) (hn : n ≤ 1048576) :
    Calls Tryd.prog 49 #[.slice so1 n cap1, .slice so2 n cap2] w fun e w' => e = .returned (.bool true) ∧ Below w.heap.size w w' := by
  go_enter Tryd.func49, Tryd.ntmps49
  go_wp2
  go_loopw [5] (fun i wr => ∃ k : Nat, k ≤ n ∧ i = .int .i64 k ∧ Below w.heap.size w wr) (fun i _ => n - (intOf i).toNat)
  case atStart => exact ⟨0, Nat.zero_le _, rfl, (by repeat (first | with_reducible exact Below.refl _ _ | with_reducible assumption | with_reducible refine Below.drew ?_ | with_reducible refine below_drewN ?_ _ | with_reducible refine Below.setCell ?_ (by first | exact Nat.le_refl _ | (simp; done) | (simp; omega) | (dsimp only; omega)) _ | with_reducible refine Below.alloc ?_ (by first | exact Nat.le_refl _ | (simp; done) | (simp; omega) | (simp at *; omega)) _ | with_reducible refine bstep ?_ (by assumption)))⟩
  case round =>
    obtain ⟨k, hk, rfl, hbl⟩ := hrel
    have hsz := hbl.size
    by_cases hlt : k < n
    · obtain ⟨b, o, rfl, hbs, c0, c1, c2⟩ := (RowAt.later hbl h1).at3 k hlt
      obtain ⟨b2, o2, rfl, hbs2, d0, d1, d2⟩ := (RowAt.later hbl h2).at3 k hlt
      have hi1 : (0 : Int) ≤ (k : Int) := by omega
      have hi2 : (k : Int) < (n : Int) := by omega
      go_upto_region 6 with fail
      refine wp_region_held_drew (S := (fun W => W.cell? ⟨b, o + k * 3, none⟩ = some (.int .i64 (T k)) ∧ W.cell? ⟨b, o + k * 3 + 1, none⟩ = some (.int .i64 (X k)) ∧ W.cell? ⟨b, o + k * 3 + 2, none⟩ = some (.int .i64 (Y k)) ∧ W.cell? ⟨b2, o2 + k * 3, none⟩ = some (.int .i64 (T k)) ∧ W.cell? ⟨b2, o2 + k * 3 + 1, none⟩ = some (.int .i64 (X k)) ∧ W.cell? ⟨b2, o2 + k * 3 + 2, none⟩ = some (.int .i64 (Y k)) ∧ Below w.heap.size w W ∧ w.heap.size + 0 ≤ W.heap.size)) (by kernel_rfl) ?_ (fun hHeld => ?_)
      · exact ⟨(by go_simp; done), (by go_simp; done), (by go_simp; done), (by go_simp; done), (by go_simp; done), (by go_simp; done), (by repeat (first | with_reducible exact Below.refl _ _ | with_reducible assumption | with_reducible refine Below.drew ?_ | with_reducible refine below_drewN ?_ _ | with_reducible refine Below.setCell ?_ (by first | exact Nat.le_refl _ | (simp; done) | (simp; omega) | (dsimp only; omega)) _ | with_reducible refine Below.alloc ?_ (by first | exact Nat.le_refl _ | (simp; done) | (simp; omega) | (simp at *; omega)) _ | with_reducible refine bstep ?_ (by assumption))), (by first | (simp; done) | (simp; omega) | omega)⟩
      refine wpAnyH_take (i := 0) (oi := ⟨some 17, _, _, _, _, _⟩) (v := ?_) rfl (by kernel_rfl) (by kernel_rfl) (by kernel_rfl) (fun _ _ _ h => h) (Or.inl ⟨by kernel_rfl, ?_⟩) (by assumption) ?_; rotate_left; focus (intro W0 hSw; (try dsimp only at hSw); go_simp; (try with_reducible rfl)); (try simp only [Act.put, List.setIfInBounds_toArray, List.set_cons_zero, List.set_cons_succ])
      refine wpAnyH_take (i := 1) (oi := ⟨some 18, _, _, _, _, _⟩) (v := ?_) rfl (by kernel_rfl) (by kernel_rfl) (by kernel_rfl) (fun _ _ _ h => h) (Or.inl ⟨by kernel_rfl, ?_⟩) (by assumption) ?_; rotate_left; focus (intro W0 hSw; (try dsimp only at hSw); go_simp; (try with_reducible rfl)); (try simp only [Act.put, List.setIfInBounds_toArray, List.set_cons_zero, List.set_cons_succ])
      refine wpAnyH_take (i := 2) (oi := ⟨some 19, _, _, _, _, _⟩) (v := ?_) rfl (by kernel_rfl) (by kernel_rfl) (by kernel_rfl) (fun _ _ _ h => h) (Or.inl ⟨by kernel_rfl, ?_⟩) (by assumption) ?_; rotate_left; focus (intro W0 hSw; (try dsimp only at hSw); go_simp; (try with_reducible rfl)); (try simp only [Act.put, List.setIfInBounds_toArray, List.set_cons_zero, List.set_cons_succ])
      refine wpAnyH_take (i := 3) (oi := ⟨some 20, _, _, _, _, _⟩) (v := ?_) rfl (by kernel_rfl) (by kernel_rfl) (by kernel_rfl) (fun _ _ _ h => h) (Or.inl ⟨by kernel_rfl, ?_⟩) (by assumption) ?_; rotate_left; focus (intro W0 hSw; (try dsimp only at hSw); go_simp; (try with_reducible rfl)); (try simp only [Act.put, List.setIfInBounds_toArray, List.set_cons_zero, List.set_cons_succ])
      refine wpAnyH_take (i := 4) (oi := ⟨some 21, _, _, _, _, _⟩) (v := ?_) rfl (by kernel_rfl) (by kernel_rfl) (by kernel_rfl) (fun _ _ _ h => h) (Or.inl ⟨by kernel_rfl, ?_⟩) (by assumption) ?_; rotate_left; focus (intro W0 hSw; (try dsimp only at hSw); go_simp; (try with_reducible rfl)); (try simp only [Act.put, List.setIfInBounds_toArray, List.set_cons_zero, List.set_cons_succ])
      refine wpAnyH_take (i := 5) (oi := ⟨some 22, _, _, _, _, _⟩) (v := ?_) rfl (by kernel_rfl) (by kernel_rfl) (by kernel_rfl) (fun _ _ _ h => h) (Or.inl ⟨by kernel_rfl, ?_⟩) (by assumption) ?_; rotate_left; focus (intro W0 hSw; (try dsimp only at hSw); go_simp; (try with_reducible rfl)); (try simp only [Act.put, List.setIfInBounds_toArray, List.set_cons_zero, List.set_cons_succ])
      refine wpAnyH_take (i := 6) (oi := ⟨some 23, _, _, _, _, _⟩) (v := ?_) rfl (by kernel_rfl) (by kernel_rfl) (by kernel_rfl) (fun _ _ _ h => h) (Or.inl ⟨by kernel_rfl, ?_⟩) (by assumption) ?_; rotate_left; focus (intro W0 hSw; (try dsimp only at hSw); go_simp; (try with_reducible rfl)); (try simp only [Act.put, List.setIfInBounds_toArray, List.set_cons_zero, List.set_cons_succ])
      refine wpAnyH_take (i := 7) (oi := ⟨some 24, _, _, _, _, _⟩) (v := ?_) rfl (by kernel_rfl) (by kernel_rfl) (by kernel_rfl) (fun _ _ _ h => h) (Or.inl ⟨by kernel_rfl, ?_⟩) (by assumption) ?_; rotate_left; focus (intro W0 hSw; (try dsimp only at hSw); go_simp; (try with_reducible rfl)); (try simp only [Act.put, List.setIfInBounds_toArray, List.set_cons_zero, List.set_cons_succ])
      refine wpAnyH_ready (rs := [8]) (by kernel_rfl) (by simp) ?_; refine (AllReadyH.cons (o := ⟨some 25, _, _, _, _, _⟩) rfl (fun K hK => ?_) AllReadyH.nil)
      go_simp; (go_at_call 80; (with_reducible refine (laws_eqFix _ _ _ _ _ _ _).mono ?_); rintro e w9 ⟨rfl, hb⟩; have hzz := hb.size; (try simp at hzz); obtain ⟨hc, hf⟩ := bcell hb)
      all_goals (try go_wp2_with fail)
      refine hK.out _ _ ?_ (fun hH2 => ?_)
      · (try dsimp only); first | (obtain ⟨k1, k2, k3, k4, k5, k6, kB, kz⟩ := hHeld; exact ⟨cell_later hb k1, cell_later hb k2, cell_later hb k3, cell_later hb k4, cell_later hb k5, cell_later hb k6, bstep kB hb, bsize kz hb⟩) | (obtain ⟨k1, k2, k3, k4, k5, k6, kB, kz⟩ := hHeld; exact ⟨k1, k2, k3, k4, k5, k6, kB, kz⟩)
      clear hK K hHeld; (have hHeld := hH2); clear hH2; (try simp only [Act.put, List.setIfInBounds_toArray, List.set_cons_zero, List.set_cons_succ])
      refine wpAnyH_take (i := 9) (oi := ⟨some 26, _, _, _, _, _⟩) (v := ?_) rfl (by kernel_rfl) (by kernel_rfl) (by kernel_rfl) (fun _ _ _ h => h) (Or.inl ⟨by kernel_rfl, ?_⟩) (by assumption) ?_; rotate_left; focus (intro W0 hSw; (try dsimp only at hSw); go_simp; (try with_reducible rfl)); (try simp only [Act.put, List.setIfInBounds_toArray, List.set_cons_zero, List.set_cons_succ])
      refine wpAnyH_done (by kernel_rfl) ?_ _; (try simp only [Act.put, List.setIfInBounds_toArray, List.set_cons_zero, List.set_cons_succ])
      obtain ⟨k1, k2, k3, k4, k5, k6, kB, kz⟩ := hHeld
      go_wp2
      (go_roundw; (case rel => exact ⟨k + 1, by omega, by go_num, kB⟩); (case measure => simp [intOf]; omega))
    · go_wp2
      go_ret
      exact ⟨rfl, hbl⟩
set_option maxRecDepth 100000 in
set_option maxHeartbeats 1000000 in
theorem laws_eqTrack (so1 so2 : Option Addr) (n cap1 cap2 : Nat) (T X Y : Nat → Int) (w : World) (h1 : RowAt w so1 n 3 (v3 T X Y)) (h2 : RowAt w so2 n 3 (v3 T X Y)) (hn : n ≤ 1048576) :
    Calls Tryd.prog 17 #[.agg #[.slice so1 n cap1], .agg #[.slice so2 n cap2]] w fun e w' => e = .returned (.bool true) ∧ Below w.heap.size w w' := by
  go_enter Tryd.func17, Tryd.ntmps17
  go_wp2_with (go_at_call 49; (with_reducible refine (laws_eqFixS _ _ _ _ _ T X Y _ (RowAt.later (by repeat (first | with_reducible exact Below.refl _ _ | with_reducible assumption | with_reducible refine Below.drew ?_ | with_reducible refine below_drewN ?_ _ | with_reducible refine Below.setCell ?_ (by first | exact Nat.le_refl _ | (simp; done) | (simp; omega) | (dsimp only; omega)) _ | with_reducible refine Below.alloc ?_ (by first | exact Nat.le_refl _ | (simp; done) | (simp; omega) | (simp at *; omega)) _ | with_reducible refine bstep ?_ (by assumption))) h1) (RowAt.later (by repeat (first | with_reducible exact Below.refl _ _ | with_reducible assumption | with_reducible refine Below.drew ?_ | with_reducible refine below_drewN ?_ _ | with_reducible refine Below.setCell ?_ (by first | exact Nat.le_refl _ | (simp; done) | (simp; omega) | (dsimp only; omega)) _ | with_reducible refine Below.alloc ?_ (by first | exact Nat.le_refl _ | (simp; done) | (simp; omega) | (simp at *; omega)) _ | with_reducible refine bstep ?_ (by assumption))) h2) hn).mono ?_); rintro e w9 ⟨rfl, hb⟩; obtain ⟨hc, hf⟩ := bcell hb; have hz := hb.size; have z0 : w.heap.size < w9.heap.size := (by first | omega | (simp at hz; omega)); have z1 : w.heap.size + 1 < w9.heap.size := (by first | omega | (simp at hz; omega)))
  go_ret
  exact ⟨rfl, (by repeat (first | with_reducible exact Below.refl _ _ | with_reducible assumption | with_reducible refine Below.drew ?_ | with_reducible refine below_drewN ?_ _ | with_reducible refine Below.setCell ?_ (by first | exact Nat.le_refl _ | (simp; done) | (simp; omega) | (dsimp only; omega)) _ | with_reducible refine Below.alloc ?_ (by first | exact Nat.le_refl _ | (simp; done) | (simp; omega) | (simp at *; omega)) _ | with_reducible refine bstep ?_ (by assumption)))⟩
theorem laws_szFixS_yes (so : Option Addr) (n cap : Nat) (left : Int) (w : World) (h : (n : Int) ≤ left) (h2 : left ≤ 1048576) :
    Calls Tryd.prog 35 #[.slice so n cap, .int .i64 left] w fun e w' => e = .returned (.int .i64 (left - n)) ∧ w = w' := by
  go_enter Tryd.func35, Tryd.ntmps35
  go_wp2
  go_ret
  exact ⟨rfl, rfl⟩
theorem laws_szFixS_no (so : Option Addr) (n cap : Nat) (left : Int) (w : World) (h : left < (n : Int)) (h1 : 0 ≤ left) (h2 : (n : Int) ≤ 9223372036854775807) :
    Calls Tryd.prog 35 #[.slice so n cap, .int .i64 left] w fun e w' => e = .returned (.int .i64 (-1)) ∧ w = w' := by
  go_enter Tryd.func35, Tryd.ntmps35
  go_wp2
  go_ret
  exact ⟨rfl, rfl⟩
theorem laws_szTrack_yes (so : Option Addr) (n cap : Nat) (left : Int) (w : World) (h : (n : Int) ≤ left) (h2 : left ≤ 1048576) :
    Calls Tryd.prog 11 #[.agg #[.slice so n cap], .int .i64 left] w fun e w' => e = .returned (.int .i64 (left - n)) ∧ Below w.heap.size w w' := by
  go_enter Tryd.func11, Tryd.ntmps11
  go_wp2_with (go_at_call 35; (with_reducible refine (laws_szFixS_yes _ _ _ _ _ h h2).mono ?_); rintro e w9 ⟨rfl, rfl⟩)
  go_ret
  exact ⟨rfl, (by repeat (first | with_reducible exact Below.refl _ _ | with_reducible assumption | with_reducible refine Below.drew ?_ | with_reducible refine below_drewN ?_ _ | with_reducible refine Below.setCell ?_ (by first | exact Nat.le_refl _ | (simp; done) | (simp; omega) | (dsimp only; omega)) _ | with_reducible refine Below.alloc ?_ (by first | exact Nat.le_refl _ | (simp; done) | (simp; omega) | (simp at *; omega)) _ | with_reducible refine bstep ?_ (by assumption)))⟩
theorem laws_szTrack_no (so : Option Addr) (n cap : Nat) (left : Int) (w : World) (h : left < (n : Int)) (h1 : 0 ≤ left) (h2 : (n : Int) ≤ 9223372036854775807) :
    Calls Tryd.prog 11 #[.agg #[.slice so n cap], .int .i64 left] w fun e w' => e = .returned (.int .i64 (-1)) ∧ Below w.heap.size w w' := by
  go_enter Tryd.func11, Tryd.ntmps11
  go_wp2_with (go_at_call 35; (with_reducible refine (laws_szFixS_no _ _ _ _ _ h h1 h2).mono ?_); rintro e w9 ⟨rfl, rfl⟩)
  go_ret
  exact ⟨rfl, (by repeat (first | with_reducible exact Below.refl _ _ | with_reducible assumption | with_reducible refine Below.drew ?_ | with_reducible refine below_drewN ?_ _ | with_reducible refine Below.setCell ?_ (by first | exact Nat.le_refl _ | (simp; done) | (simp; omega) | (dsimp only; omega)) _ | with_reducible refine Below.alloc ?_ (by first | exact Nat.le_refl _ | (simp; done) | (simp; omega) | (simp at *; omega)) _ | with_reducible refine bstep ?_ (by assumption)))⟩
end Go.Proofs.YtlllfklehbjneaaDoor
