/- Walks: tracks that came in are copied, compared, measured. -/
import Derived.Test.YtiokigjnacmilaaGreatDoorBs
import Derived.Test.YtiokigjnacmilaaGreatDoorBase
import Derived.Test.YtiokigjnacmilaaGreatDoorA
import Derived.Deep.RegionHeld3
import Derived.Deep.DeepCutAuto
import Derived.Test.YtiokigjnacmilaaGreatDoorCo
import Derived.Test.YtiokigjnacmilaaGreatDoorD
namespace Go.Proofs.YtiokigjnacmilaaGreatDoor
open Go.RowKit

/-- The copy of n elements of c cells: a row of the call's own. -/
def Copied (w : World) (n c : Nat) (V : Nat → Nat → Value) (e : Ending) (w' : World) : Prop :=
  ∃ g, e = .returned (.slice (some ⟨g, 0, none⟩) n n) ∧ RowAt w' (some ⟨g, 0, none⟩) n c V ∧ Mine w' g (n * c) ∧ w.heap.size ≤ g ∧ g < w'.heap.size ∧ Below w.heap.size w w'
/-- The same, as the one field of a struct. -/
def Copied1 (w : World) (n c : Nat) (V : Nat → Nat → Value) (e : Ending) (w' : World) : Prop :=
  ∃ g, e = .returned (.agg #[.slice (some ⟨g, 0, none⟩) n n]) ∧ RowAt w' (some ⟨g, 0, none⟩) n c V ∧ Mine w' g (n * c) ∧ w.heap.size ≤ g ∧ g < w'.heap.size ∧ Below w.heap.size w w'
theorem laws_toFix (a x y : Int) (w : World) :
    Calls Tryz.prog 74 #[.agg #[.int .i64 a, .int .i64 x, .int .i64 y]] w fun e w' => e = .returned (.agg #[.int .i64 a, .int .i64 x, .int .i64 y]) ∧ Below w.heap.size w w' := by
  go_enter Tryz.func74, Tryz.ntmps74
  go_wp2
  simp [bodyPost, results, Tryz.results74, go_sem, *]
  exact bwz
theorem infoFix : (Tryz.prog.info? 93).map (fun i => (i.zero, i.size, i.bytes)) = some (some (.agg #[.int .i64 0, .int .i64 0, .int .i64 0]), 3, 24) := by kernel_rfl
set_option maxRecDepth 100000 in
set_option maxHeartbeats 1000000 in
theorem laws_toFixS (so : Option Addr) (n cap : Nat) (T X Y : Nat → Int) (w : World) (h : RowAt w so n 3 (v3 T X Y)) (hn : n ≤ 1048576) :
    Calls Tryz.prog 52 #[.slice so n cap] w (Copied w n 3 (v3 T X Y)) := by
  obtain ⟨i0, hi, hz0, hz1, hz2⟩ := info_parts infoFix
  have hmk := fun W => run_make_rowN (P := Tryz.prog) 58 93 i0 _ Tryz.underlying58 hi hz0 n (by rw [hz2]; omega) (by omega) W
  have hsz : (madeCells (Value.agg #[.int .i64 0, .int .i64 0, .int .i64 0]).cells (n * i0.size)).size = n * 3 := by rw [size_madeCells, hz1]
  have Hs := hide hsz
  clear hsz hi hz0 hz1 hz2
  go_enter Tryz.func52, Tryz.ntmps52
  go_wp2
  go_loopw [4] (fun i wr => ∃ k : Nat, k ≤ n ∧ i = .int .i64 k ∧ RowAt wr (some ⟨w.heap.size, 0, none⟩) k 3 (v3 T X Y) ∧ Mine wr w.heap.size (n * 3) ∧ w.heap.size < wr.heap.size ∧ Below w.heap.size w wr) (fun i _ => n - (intOf i).toNat)
  case atStart => exact ⟨0, Nat.zero_le _, rfl, row_zero _ _ _ _, mine_make Hs.out, by simp, bwz⟩
  case round =>
    obtain ⟨k, hk, rfl, hrow, hmine, hlt9, hbl⟩ := hrel
    clear hmk
    by_cases hlt : k < n
    · obtain ⟨b, o, rfl, hbs, c0, c1, c2⟩ := (RowAt.later hbl h).at3 k hlt
      obtain ⟨x0, m0, f0⟩ := hmine.cells (k * 3) (by omega)
      obtain ⟨x1, m1, f1⟩ := hmine.cells (k * 3 + 1) (by omega)
      obtain ⟨x2, m2, f2⟩ := hmine.cells (k * 3 + 2) (by omega)
      have Hrow := hide hrow
      have Hmine := hide hmine
      clear hrow hmine
      go_wp2_with (first | (go_at_call 74; (with_reducible refine (laws_toFix _ _ _ _).mono ?_); rintro e w9 ⟨rfl, hb⟩; obtain ⟨hc, hf⟩ := bcell hb; have hz := hb.size; have z0 : w.heap.size < w9.heap.size := (by first | omega | (simp at hz; omega)); have zzb : b < w9.heap.size := (by first | omega | (simp at hz; omega))))
      have R := fill3 (n := n) (Mine.later hb Hmine.out) (RowAt.later hb Hrow.out) hlt
      have M := ((Mine.later hb Hmine.out).set (p := ⟨w.heap.size, k * 3, none⟩) (x := .int .i64 (T k))).set (p := ⟨w.heap.size, k * 3 + 1, none⟩) (x := .int .i64 (X k)) |>.set (p := ⟨w.heap.size, k * 3 + 2, none⟩) (x := .int .i64 (Y k))
      go_roundw
      case rel => exact ⟨k + 1, by omega, by go_num, R, M, by simp; omega, bwz⟩
      case measure => simp [intOf]; omega
    · obtain rfl : k = n := by omega
      go_wp2
      go_ret
      exact ⟨w.heap.size, rfl, hrow, hmine, Nat.le_refl _, hlt9, hbl⟩
theorem row_set {w : World} {g n c : Nat} {V : Nat → Nat → Value} {p : Addr} {x : Value} (r : RowAt w (some ⟨g, 0, none⟩) n c V) (h : p.block ≠ g) : RowAt (w.setCell p x) (some ⟨g, 0, none⟩) n c V :=
  own_row fun i hi j hj => (World.cell?_setCell_other w _ _ x (fun e => h (by rw [e]))).trans (row_own r hi hj)
set_option maxRecDepth 100000 in
set_option maxHeartbeats 1000000 in
theorem laws_toTrack (so : Option Addr) (n cap : Nat) (T X Y : Nat → Int) (w : World) (h : RowAt w so n 3 (v3 T X Y)) (hn : n ≤ 1048576) :
    Calls Tryz.prog 26 #[.agg #[.slice so n cap]] w (Copied1 w n 3 (v3 T X Y)) := by
  go_enter Tryz.func26, Tryz.ntmps26
  go_wp2_with (go_at_call 52; (with_reducible refine (laws_toFixS so n cap T X Y _ (RowAt.later bwz h) hn).mono ?_); rintro e w9 ⟨g, rfl, hrow, hmine, hge, hgl, hb⟩; (simp at hge); obtain ⟨hc, hf⟩ := bcell hb; have hz := hb.size; (simp at hz); have z0 : w.heap.size < w9.heap.size := (by omega); have z1 : w.heap.size + 1 < w9.heap.size := (by omega); have z2 : w.heap.size + 1 + 1 < w9.heap.size := (by omega); have Hrow := hide hrow; have Hmine := hide hmine; clear hrow hmine)
  simp [bodyPost, results, Tryz.results26, go_sem, *]
  exact ⟨g, rfl, row_set (row_set Hrow.out (by dsimp only; omega)) (by dsimp only; omega), Hmine.out.set.set, by omega, by simpa using hgl, bwz⟩
theorem laws_eqFix (a x y c u v : Int) (w : World) :
    Calls Tryz.prog 85 #[.agg #[.int .i64 a, .int .i64 x, .int .i64 y], .agg #[.int .i64 c, .int .i64 u, .int .i64 v]] w fun e w' => e = .returned (.bool (a == c && x == u && y == v)) ∧ Below w.heap.size w w' := by
  go_enter Tryz.func85, Tryz.ntmps85
  go_wp2
  all_goals (go_ret; exact ⟨by simp_all, bwz⟩)
set_option maxRecDepth 100000 in
set_option maxHeartbeats 1000000 in
theorem laws_eqFixS (so1 so2 : Option Addr) (n cap1 cap2 : Nat) (T X Y : Nat → Int) (w : World) (h1 : RowAt w so1 n 3 (v3 T X Y)) (h2 : RowAt w so2 n 3 (v3 T X Y)) (hn : n ≤ 1048576) :
    Calls Tryz.prog 65 #[.slice so1 n cap1, .slice so2 n cap2] w fun e w' => e = .returned (.bool true) ∧ Below w.heap.size w w' := by
  go_enter Tryz.func65, Tryz.ntmps65
  go_wp2
  go_loopw [5] (fun i wr => ∃ k : Nat, k ≤ n ∧ i = .int .i64 k ∧ Below w.heap.size w wr) (fun i _ => n - (intOf i).toNat)
  case atStart => exact ⟨0, Nat.zero_le _, rfl, bwz⟩
  case round =>
    obtain ⟨k, hk, rfl, hbl⟩ := hrel
    have hsz := hbl.size
    by_cases hlt : k < n
    · obtain ⟨b, o, rfl, hbs, c0, c1, c2⟩ := (RowAt.later hbl h1).at3 k hlt
      obtain ⟨b2, o2, rfl, hbs2, d0, d1, d2⟩ := (RowAt.later hbl h2).at3 k hlt
      have hi1 : (0 : Int) ≤ (k : Int) := by omega
      have hi2 : (k : Int) < (n : Int) := by omega
      go_upto_region 6 with fail
      refine wp_region_held_drew (S := (fun W => W.cell? ⟨b, o + k * 3, none⟩ = some (.int .i64 (T k)) ∧ W.cell? ⟨b, o + k * 3 + 1, none⟩ = some (.int .i64 (X k)) ∧ W.cell? ⟨b, o + k * 3 + 2, none⟩ = some (.int .i64 (Y k)) ∧ W.cell? ⟨b2, o2 + k * 3, none⟩ = some (.int .i64 (T k)) ∧ W.cell? ⟨b2, o2 + k * 3 + 1, none⟩ = some (.int .i64 (X k)) ∧ W.cell? ⟨b2, o2 + k * 3 + 2, none⟩ = some (.int .i64 (Y k)) ∧ Below w.heap.size w W ∧ w.heap.size + 0 ≤ W.heap.size)) (by kernel_rfl) ?_ (fun hHeld => ?_)
      · exact ⟨(by go_simp; done), (by go_simp; done), (by go_simp; done), (by go_simp; done), (by go_simp; done), (by go_simp; done), bwz, (by first | (simp; done) | (simp; omega) | omega)⟩
      refine tkD 0 (some 17) rfl ?_; (try simp only [pz])
      refine tkD 1 (some 18) rfl ?_; (try simp only [pz])
      refine tkD 2 (some 19) rfl ?_; (try simp only [pz])
      refine tkD 3 (some 20) rfl ?_; (try simp only [pz])
      refine tkD 4 (some 21) rfl ?_; (try simp only [pz])
      refine tkD 5 (some 22) rfl ?_; (try simp only [pz])
      refine tkD 6 (some 23) rfl ?_; (try simp only [pz])
      refine tkD 7 (some 24) rfl ?_; (try simp only [pz])
      refine wpAnyH_ready (rs := [8]) (by kernel_rfl) (by simp) ?_; refine (AllReadyH.cons (o := ⟨some 25, _, _, _, _, _⟩) rfl (fun K hK => ?_) AllReadyH.nil)
      go_simp; (go_at_call 85; (with_reducible refine (laws_eqFix _ _ _ _ _ _ _).mono ?_); rintro e w9 ⟨rfl, hb⟩; have hzz := hb.size; (try simp at hzz); obtain ⟨hc, hf⟩ := bcell hb)
      all_goals (try go_wp2_with fail)
      refine hK.out _ _ ?_ (fun hH2 => ?_)
      · (try dsimp only); first | (obtain ⟨k1, k2, k3, k4, k5, k6, kB, kz⟩ := hHeld; exact ⟨cell_later hb k1, cell_later hb k2, cell_later hb k3, cell_later hb k4, cell_later hb k5, cell_later hb k6, bstep kB hb, bsize kz hb⟩) | (obtain ⟨k1, k2, k3, k4, k5, k6, kB, kz⟩ := hHeld; exact ⟨k1, k2, k3, k4, k5, k6, kB, kz⟩)
      clear hK K hHeld; (have hHeld := hH2); clear hH2; (try simp only [pz])
      refine tkD 9 (some 26) rfl ?_; (try simp only [pz])
      refine wpAnyH_done (by kernel_rfl) ?_ _; (try simp only [pz])
      obtain ⟨k1, k2, k3, k4, k5, k6, kB, kz⟩ := hHeld
      go_wp2
      (go_roundw; (case rel => exact ⟨k + 1, by omega, by go_num, kB⟩); (case measure => simp [intOf]; omega))
    · go_wp2
      go_ret
      exact ⟨rfl, hbl⟩
set_option maxRecDepth 100000 in
set_option maxHeartbeats 1000000 in
theorem laws_eqTrack (so1 so2 : Option Addr) (n cap1 cap2 : Nat) (T X Y : Nat → Int) (w : World) (h1 : RowAt w so1 n 3 (v3 T X Y)) (h2 : RowAt w so2 n 3 (v3 T X Y)) (hn : n ≤ 1048576) :
    Calls Tryz.prog 35 #[.agg #[.slice so1 n cap1], .agg #[.slice so2 n cap2]] w fun e w' => e = .returned (.bool true) ∧ Below w.heap.size w w' := by
  go_enter Tryz.func35, Tryz.ntmps35
  go_wp2_with (go_at_call 65; (with_reducible refine (laws_eqFixS _ _ _ _ _ T X Y _ (RowAt.later bwz h1) (RowAt.later bwz h2) hn).mono ?_); rintro e w9 ⟨rfl, hb⟩; obtain ⟨hc, hf⟩ := bcell hb; have hz := hb.size; have z0 : w.heap.size < w9.heap.size := (by first | omega | (simp at hz; omega)); have z1 : w.heap.size + 1 < w9.heap.size := (by first | omega | (simp at hz; omega)))
  go_ret
  exact ⟨rfl, bwz⟩
theorem laws_szFixS_yes (so : Option Addr) (n cap : Nat) (left : Int) (w : World) (h : (n : Int) ≤ left) (h2 : left ≤ 1048576) :
    Calls Tryz.prog 39 #[.slice so n cap, .int .i64 left] w fun e w' => e = .returned (.int .i64 (left - n)) ∧ w = w' := by
  go_enter Tryz.func39, Tryz.ntmps39
  go_wp2
  go_ret
  exact ⟨rfl, rfl⟩
theorem laws_szFixS_no (so : Option Addr) (n cap : Nat) (left : Int) (w : World) (h : left < (n : Int)) (h1 : 0 ≤ left) (h2 : (n : Int) ≤ 9223372036854775807) :
    Calls Tryz.prog 39 #[.slice so n cap, .int .i64 left] w fun e w' => e = .returned (.int .i64 (-1)) ∧ w = w' := by
  go_enter Tryz.func39, Tryz.ntmps39
  go_wp2
  go_ret
  exact ⟨rfl, rfl⟩
theorem laws_szTrack_yes (so : Option Addr) (n cap : Nat) (left : Int) (w : World) (h : (n : Int) ≤ left) (h2 : left ≤ 1048576) :
    Calls Tryz.prog 18 #[.agg #[.slice so n cap], .int .i64 left] w fun e w' => e = .returned (.int .i64 (left - n)) ∧ Below w.heap.size w w' := by
  go_enter Tryz.func18, Tryz.ntmps18
  go_wp2_with (go_at_call 39; (with_reducible refine (laws_szFixS_yes _ _ _ _ _ h h2).mono ?_); rintro e w9 ⟨rfl, rfl⟩)
  go_ret
  exact ⟨rfl, bwz⟩
theorem laws_szTrack_no (so : Option Addr) (n cap : Nat) (left : Int) (w : World) (h : left < (n : Int)) (h1 : 0 ≤ left) (h2 : (n : Int) ≤ 9223372036854775807) :
    Calls Tryz.prog 18 #[.agg #[.slice so n cap], .int .i64 left] w fun e w' => e = .returned (.int .i64 (-1)) ∧ Below w.heap.size w w' := by
  go_enter Tryz.func18, Tryz.ntmps18
  go_wp2_with (go_at_call 39; (with_reducible refine (laws_szFixS_no _ _ _ _ _ h h1 h2).mono ?_); rintro e w9 ⟨rfl, rfl⟩)
  go_ret
  exact ⟨rfl, bwz⟩
end Go.Proofs.YtiokigjnacmilaaGreatDoor
/- Walks: courses that came in are copied, compared, measured. -/
namespace Go.Proofs.YtiokigjnacmilaaGreatDoor
open Go.RowKit
theorem laws_toLine (a b c d : Int) (w : World) :
    Calls Tryz.prog 24 #[.agg #[.int .i64 a, .int .i64 b, .int .i64 c, .int .i64 d]] w fun e w' => e = .returned (.agg #[.int .i64 a, .int .i64 b, .int .i64 c, .int .i64 d]) ∧ Below w.heap.size w w' := by
  go_enter Tryz.func24, Tryz.ntmps24
  go_wp2_with (go_at_call 50; (with_reducible refine (laws_toPoint _ _ _).mono ?_); rintro e w9 ⟨rfl, hb⟩; obtain ⟨hc, hf⟩ := bcell hb; have hz := hb.size; have z0 : w.heap.size < w9.heap.size := (by first | omega | (simp at hz; omega)); have z1 : w.heap.size + 1 < w9.heap.size := (by first | omega | (simp at hz; omega)); have z2 : w.heap.size + 1 + 1 < w9.heap.size := (by first | omega | (simp at hz; omega)))
  simp [bodyPost, results, Tryz.results24, go_sem, *]
  exact bwz
theorem fill5 {w : World} {h n k : Nat} {N : Nat → ByteArray} {X Y S Z : Nat → Int} (m : Mine w h (n * 5)) (r : RowAt w (some ⟨h, 0, none⟩) k 5 (v5 N X Y S Z)) (hk : k < n) :
    RowAt (((((w.setCell ⟨h, k * 5, none⟩ (.string (N k))).setCell ⟨h, k * 5 + 1, none⟩ (.int .i64 (X k))).setCell ⟨h, k * 5 + 2, none⟩ (.int .i64 (Y k))).setCell ⟨h, k * 5 + 3, none⟩ (.int .i64 (S k))).setCell ⟨h, k * 5 + 4, none⟩ (.int .i64 (Z k))) (some ⟨h, 0, none⟩) (k + 1) 5 (v5 N X Y S Z) := by
  refine own_row fun i hi j hj => ?_
  by_cases e : i < k
  · refine (set_row (set_row (set_row (set_row (set_row (row_own r e hj)))))).trans (congrArg some ?_)
    rw [if_neg (by omega), if_neg (by omega), if_neg (by omega), if_neg (by omega), if_neg (by omega)]
  · obtain rfl : i = k := by omega
    obtain ⟨⟨v, hv⟩, _⟩ := m (i * 5 + j) (by omega)
    refine (set_row (set_row (set_row (set_row (set_row hv))))).trans (congrArg some ?_)
    rcases (by omega : j = 0 ∨ j = 1 ∨ j = 2 ∨ j = 3 ∨ j = 4) with rfl | rfl | rfl | rfl | rfl
    · rw [if_neg (by omega), if_neg (by omega), if_neg (by omega), if_neg (by omega), if_pos (by omega)]; simp [v5]
    · rw [if_neg (by omega), if_neg (by omega), if_neg (by omega), if_pos (by omega)]; simp [v5]
    · rw [if_neg (by omega), if_neg (by omega), if_pos (by omega)]; simp [v5]
    · rw [if_neg (by omega), if_pos (by omega)]; simp [v5]
    · rw [if_pos (by omega)]; simp [v5]
theorem infoMark : (Tryz.prog.info? 88).map (fun i => (i.zero, i.size, i.bytes)) = some (some (.agg #[.string ByteArray.empty, .int .i64 0, .int .i64 0, .int .i64 0, .int .i64 0]), 5, 48) := by kernel_rfl
set_option maxRecDepth 100000 in
set_option maxHeartbeats 2000000 in
theorem laws_toMarkS (so : Option Addr) (n cap : Nat) (N : Nat → ByteArray) (X Y S Z : Nat → Int) (w : World) (h : RowAt w so n 5 (v5 N X Y S Z)) (hn : n ≤ 1048576) :
    Calls Tryz.prog 25 #[.slice so n cap] w (Copied w n 5 (v5 N X Y S Z)) := by
  obtain ⟨i0, hi, hz0, hz1, hz2⟩ := info_parts infoMark
  have hmk := fun W => run_make_rowN (P := Tryz.prog) 38 88 i0 _ Tryz.underlying38 hi hz0 n (by rw [hz2]; omega) (by omega) W
  have hsz : (madeCells (Value.agg #[.string ByteArray.empty, .int .i64 0, .int .i64 0, .int .i64 0, .int .i64 0]).cells (n * i0.size)).size = n * 5 := by rw [size_madeCells, hz1]
  have Hs := hide hsz
  clear hsz hi hz0 hz1 hz2
  go_enter Tryz.func25, Tryz.ntmps25
  go_wp2
  go_loopw [4] (fun i wr => ∃ k : Nat, k ≤ n ∧ i = .int .i64 k ∧ RowAt wr (some ⟨w.heap.size, 0, none⟩) k 5 (v5 N X Y S Z) ∧ Mine wr w.heap.size (n * 5) ∧ w.heap.size < wr.heap.size ∧ Below w.heap.size w wr) (fun i _ => n - (intOf i).toNat)
  case atStart => exact ⟨0, Nat.zero_le _, rfl, row_zero _ _ _ _, mine_make Hs.out, by simp, bwz⟩
  case round =>
    obtain ⟨k, hk, rfl, hrow, hmine, hlt9, hbl⟩ := hrel
    clear hmk
    by_cases hlt : k < n
    · obtain ⟨b, o, rfl, hbs, c0, c1, c2, c3, c4⟩ := (RowAt.later hbl h).at5 k hlt
      obtain ⟨x0, m0, f0⟩ := hmine.cells (k * 5) (by omega)
      obtain ⟨x1, m1, f1⟩ := hmine.cells (k * 5 + 1) (by omega)
      obtain ⟨x2, m2, f2⟩ := hmine.cells (k * 5 + 2) (by omega)
      obtain ⟨x3, m3, f3⟩ := hmine.cells (k * 5 + 3) (by omega)
      obtain ⟨x4, m4, f4⟩ := hmine.cells (k * 5 + 4) (by omega)
      have Hrow := hide hrow
      have Hmine := hide hmine
      clear hrow hmine
      go_wp2_with (first | (go_at_call 51; (with_reducible refine (laws_toMark _ _ _ _ _ _).mono ?_); rintro e w9 ⟨rfl, hb⟩; obtain ⟨hc, hf⟩ := bcell hb; have hz := hb.size; have z0 : w.heap.size < w9.heap.size := (by first | omega | (simp at hz; omega)); have zzb : b < w9.heap.size := (by first | omega | (simp at hz; omega))))
      have R := hide (fill5 (n := n) (Mine.later hb Hmine.out) (RowAt.later hb Hrow.out) hlt)
      have M := hide (Mine.set (p := ⟨w.heap.size, k * 5 + 4, none⟩) (x := .int .i64 (Z k)) (Mine.set (p := ⟨w.heap.size, k * 5 + 3, none⟩) (x := .int .i64 (S k)) (Mine.set (p := ⟨w.heap.size, k * 5 + 2, none⟩) (x := .int .i64 (Y k)) (Mine.set (p := ⟨w.heap.size, k * 5 + 1, none⟩) (x := .int .i64 (X k)) (Mine.set (p := ⟨w.heap.size, k * 5, none⟩) (x := .string (N k)) (Mine.later hb Hmine.out))))))
      go_roundw
      case rel => exact ⟨k + 1, by omega, by go_num, R.out, M.out, by simp; omega, bwz⟩
      case measure => simp [intOf]; omega
    · obtain rfl : k = n := by omega
      go_wp2
      go_ret
      exact ⟨w.heap.size, rfl, hrow, hmine, Nat.le_refl _, hlt9, hbl⟩
theorem laws_eqPointC (a b c d : Int) (w : World) :
    Calls Tryz.prog 63 #[.agg #[.int .i64 a, .int .i64 b], .agg #[.int .i64 c, .int .i64 d]] w fun e w' => e = .returned (.bool (a == c && b == d)) ∧ Below w.heap.size w w' := by
  go_enter Tryz.func63, Tryz.ntmps63
  go_wp2
  all_goals (go_ret; exact ⟨by simp_all, bwz⟩)
theorem laws_eqLine (a b c d : Int) (w : World) :
    Calls Tryz.prog 33 #[.agg #[.int .i64 a, .int .i64 b, .int .i64 c, .int .i64 d], .agg #[.int .i64 a, .int .i64 b, .int .i64 c, .int .i64 d]] w fun e w' => e = .returned (.bool true) ∧ Below w.heap.size w w' := by
  have K := hide (fun (x y : Int) (W : World) => (laws_eqPointC x y x y W).mono (fun e w' k => (⟨by rw [k.1]; simp, k.2⟩ : e = .returned (.bool true) ∧ Below W.heap.size W w')))
  go_enter Tryz.func33, Tryz.ntmps33
  go_wp2_with (go_at_call 63; (with_reducible refine (K.out _ _ _).mono ?_); rintro e w9 ⟨rfl, hb⟩; obtain ⟨hc, hf⟩ := bcell hb; have hz := hb.size; have z0 : w.heap.size < w9.heap.size := (by first | omega | (simp at hz; omega)); have z1 : w.heap.size + 1 < w9.heap.size := (by first | omega | (simp at hz; omega)))
  go_ret
  exact ⟨rfl, bwz⟩
theorem laws_eqMark (s : ByteArray) (x y p q : Int) (w : World) :
    Calls Tryz.prog 64 #[.agg #[.string s, .int .i64 x, .int .i64 y, .int .i64 p, .int .i64 q], .agg #[.string s, .int .i64 x, .int .i64 y, .int .i64 p, .int .i64 q]] w fun e w' => e = .returned (.bool true) ∧ Below w.heap.size w w' := by
  have K := hide (fun (x y : Int) (W : World) => (laws_eqPointC x y x y W).mono (fun e w' k => (⟨by rw [k.1]; simp, k.2⟩ : e = .returned (.bool true) ∧ Below W.heap.size W w')))
  go_enter Tryz.func64, Tryz.ntmps64
  go_wp2_with (go_at_call 63; (with_reducible refine (K.out _ _ _).mono ?_); rintro e w9 ⟨rfl, hb⟩; obtain ⟨hc, hf⟩ := bcell hb; have hz := hb.size; have z0 : w.heap.size < w9.heap.size := (by first | omega | (simp at hz; omega)); have z1 : w.heap.size + 1 < w9.heap.size := (by first | omega | (simp at hz; omega)))
  go_ret
  exact ⟨rfl, bwz⟩
set_option maxRecDepth 100000 in
set_option maxHeartbeats 2000000 in
theorem laws_eqMarkS (so1 so2 : Option Addr) (n cap1 cap2 : Nat) (N : Nat → ByteArray) (X Y S Z : Nat → Int) (w : World) (h1 : RowAt w so1 n 5 (v5 N X Y S Z)) (h2 : RowAt w so2 n 5 (v5 N X Y S Z)) (hn : n ≤ 1048576) :
    Calls Tryz.prog 34 #[.slice so1 n cap1, .slice so2 n cap2] w fun e w' => e = .returned (.bool true) ∧ Below w.heap.size w w' := by
  go_enter Tryz.func34, Tryz.ntmps34
  go_wp2
  go_loopw [5] (fun i wr => ∃ k : Nat, k ≤ n ∧ i = .int .i64 k ∧ Below w.heap.size w wr) (fun i _ => n - (intOf i).toNat)
  case atStart => exact ⟨0, Nat.zero_le _, rfl, bwz⟩
  case round =>
    obtain ⟨k, hk, rfl, hbl⟩ := hrel
    have hsz := hbl.size
    by_cases hlt : k < n
    · obtain ⟨b, o, rfl, hbs, c0, c1, c2, c3, c4⟩ := (RowAt.later hbl h1).at5 k hlt
      obtain ⟨b2, o2, rfl, hbs2, d0, d1, d2, d3, d4⟩ := (RowAt.later hbl h2).at5 k hlt
      have hi1 : (0 : Int) ≤ (k : Int) := by omega
      have hi2 : (k : Int) < (n : Int) := by omega
      go_upto_region 6 with fail
      refine wp_region_held_drew (S := (fun W => W.cell? ⟨b, o + k * 5, none⟩ = some (.string (N k)) ∧ W.cell? ⟨b, o + k * 5 + 1, none⟩ = some (.int .i64 (X k)) ∧ W.cell? ⟨b, o + k * 5 + 2, none⟩ = some (.int .i64 (Y k)) ∧ W.cell? ⟨b, o + k * 5 + 3, none⟩ = some (.int .i64 (S k)) ∧ W.cell? ⟨b, o + k * 5 + 4, none⟩ = some (.int .i64 (Z k)) ∧ W.cell? ⟨b2, o2 + k * 5, none⟩ = some (.string (N k)) ∧ W.cell? ⟨b2, o2 + k * 5 + 1, none⟩ = some (.int .i64 (X k)) ∧ W.cell? ⟨b2, o2 + k * 5 + 2, none⟩ = some (.int .i64 (Y k)) ∧ W.cell? ⟨b2, o2 + k * 5 + 3, none⟩ = some (.int .i64 (S k)) ∧ W.cell? ⟨b2, o2 + k * 5 + 4, none⟩ = some (.int .i64 (Z k)) ∧ Below w.heap.size w W ∧ w.heap.size + 0 ≤ W.heap.size)) (by kernel_rfl) ?_ (fun hHeld => ?_)
      · exact ⟨(by go_simp; done), (by go_simp; done), (by go_simp; done), (by go_simp; done), (by go_simp; done), (by go_simp; done), (by go_simp; done), (by go_simp; done), (by go_simp; done), (by go_simp; done), bwz, (by first | (simp; done) | (simp; omega) | omega)⟩
      refine tkD 0 (some 17) rfl ?_; (try simp only [pz])
      refine tkD 1 (some 18) rfl ?_; (try simp only [pz])
      refine tkD 2 (some 19) rfl ?_; (try simp only [pz])
      refine tkD 3 (some 20) rfl ?_; (try simp only [pz])
      refine tkD 4 (some 21) rfl ?_; (try simp only [pz])
      refine tkD 5 (some 22) rfl ?_; (try simp only [pz])
      refine tkD 6 (some 23) rfl ?_; (try simp only [pz])
      refine tkD 7 (some 24) rfl ?_; (try simp only [pz])
      refine wpAnyH_ready (rs := [8]) (by kernel_rfl) (by simp) ?_; refine (AllReadyH.cons (o := ⟨some 25, _, _, _, _, _⟩) rfl (fun K hK => ?_) AllReadyH.nil)
      go_simp; (go_at_call 64; (with_reducible refine (laws_eqMark _ _ _ _ _ _).mono ?_); rintro e w9 ⟨rfl, hb⟩; have hzz := hb.size; (try simp at hzz); obtain ⟨hc, hf⟩ := bcell hb)
      all_goals (try go_wp2_with fail)
      refine hK.out _ _ ?_ (fun hH2 => ?_)
      · (try dsimp only); first | (obtain ⟨k1, k2, k3, k4, k5, k6, k7, k8, k9, k10, kB, kz⟩ := hHeld; exact ⟨cell_later hb k1, cell_later hb k2, cell_later hb k3, cell_later hb k4, cell_later hb k5, cell_later hb k6, cell_later hb k7, cell_later hb k8, cell_later hb k9, cell_later hb k10, bstep kB hb, bsize kz hb⟩) | (obtain ⟨k1, k2, k3, k4, k5, k6, k7, k8, k9, k10, kB, kz⟩ := hHeld; exact ⟨k1, k2, k3, k4, k5, k6, k7, k8, k9, k10, kB, kz⟩)
      clear hK K hHeld; (have hHeld := hH2); clear hH2; (try simp only [pz])
      refine tkD 9 (some 26) rfl ?_; (try simp only [pz])
      refine wpAnyH_done (by kernel_rfl) ?_ _; (try simp only [pz])
      obtain ⟨k1, k2, k3, k4, k5, k6, k7, k8, k9, k10, kB, kz⟩ := hHeld
      go_wp2
      (go_roundw; (case rel => exact ⟨k + 1, by omega, by go_num, kB⟩); (case measure => simp [intOf]; omega))
    · go_wp2
      go_ret
      exact ⟨rfl, hbl⟩
set_option maxRecDepth 100000 in
set_option maxHeartbeats 2000000 in
theorem laws_eqCourse (ax ay bx bY cx cy dx dy : Int) (so1 so2 : Option Addr) (n cap1 cap2 : Nat) (N : Nat → ByteArray) (X Y S Z : Nat → Int) (w : World) (h1 : RowAt w so1 n 5 (v5 N X Y S Z)) (h2 : RowAt w so2 n 5 (v5 N X Y S Z)) (hn : n ≤ 1048576) :
    Calls Tryz.prog 11 #[.agg #[.int .i64 ax, .int .i64 ay, .int .i64 bx, .int .i64 bY, .int .i64 cx, .int .i64 cy, .int .i64 dx, .int .i64 dy, .slice so1 n cap1], .agg #[.int .i64 ax, .int .i64 ay, .int .i64 bx, .int .i64 bY, .int .i64 cx, .int .i64 cy, .int .i64 dx, .int .i64 dy, .slice so2 n cap2]] w fun e w' => e = .returned (.bool true) ∧ Below w.heap.size w w' := by
  go_enter Tryz.func11, Tryz.ntmps11
  go_wp2_with (first | (go_at_call 33; (with_reducible refine (laws_eqLine _ _ _ _ _).mono ?_); rintro e w9 ⟨rfl, hb⟩; obtain ⟨hc, hf⟩ := bcell hb; have hz := hb.size; have z0 : w.heap.size < w9.heap.size := (by first | omega | (simp at hz; omega)); have z1 : w.heap.size + 1 < w9.heap.size := (by first | omega | (simp at hz; omega))) | (go_at_call 34; (with_reducible refine (laws_eqMarkS _ _ _ _ _ N X Y S Z _ (RowAt.later bwz h1) (RowAt.later bwz h2) hn).mono ?_); rintro e w9 ⟨rfl, hb⟩; obtain ⟨hc, hf⟩ := bcell hb; have hz := hb.size; have z0 : w.heap.size < w9.heap.size := (by first | omega | (simp at hz; omega)); have z1 : w.heap.size + 1 < w9.heap.size := (by first | omega | (simp at hz; omega))))
  go_ret
  exact ⟨rfl, bwz⟩
/-- What is left when marks, or a course, have been measured: -1, or no more than there was. -/
def LeftQ (left : Int) (n : Nat) (x : Int) : Prop := x = -1 ∨ (0 ≤ x ∧ x ≤ left ∧ (n : Int) ≤ left)
set_option maxRecDepth 100000 in
set_option maxHeartbeats 2000000 in
theorem laws_szMarkS (so : Option Addr) (n cap : Nat) (N : Nat → ByteArray) (X Y S Z : Nat → Int) (left : Int) (w : World) (h : RowAt w so n 5 (v5 N X Y S Z)) (hN : ∀ i, (N i).size ≤ maxLen) (hn : n ≤ maxLen) (h0 : 0 ≤ left) (h1 : left ≤ 1048576) :
    Calls Tryz.prog 17 #[.slice so n cap, .int .i64 left] w fun e w' => ∃ x, e = .returned (.int .i64 x) ∧ LeftQ left n x ∧ Below w.heap.size w w' := by
  unfold maxLen at hN hn
  by_cases hl : left < (n : Int)
  · go_enter Tryz.func17, Tryz.ntmps17
    go_wp2
    go_ret
    exact ⟨_, rfl, .inl rfl, bwz⟩
  · have HN := hide hN
    clear hN
    go_enter Tryz.func17, Tryz.ntmps17
    go_wp2
    go_loopw [1, 5] (fun l i wr => ∃ (k : Nat) (x : Int), k ≤ n ∧ i = .int .i64 k ∧ l = .int .i64 x ∧ 0 ≤ x ∧ x ≤ left ∧ Below w.heap.size w wr) (fun _ i _ => n - (intOf i).toNat)
    case atStart => exact ⟨0, left - n, Nat.zero_le _, rfl, rfl, by omega, by omega, bwz⟩
    case round =>
      obtain ⟨k, x, hk, rfl, rfl, hx0, hx1, hbl⟩ := hrel
      have hsz := hbl.size
      by_cases hlt : k < n
      · obtain ⟨b, o, rfl, hbs, c0, c1, c2, c3, c4⟩ := (RowAt.later hbl h).at5 k hlt
        have hNk := HN.out k
        have hi1 : (0 : Int) ≤ (k : Int) := by omega
        have hi2 : (k : Int) < (n : Int) := by omega
        by_cases hs : ((N k).size : Int) ≤ x
        · go_wp2_with (go_at_call 38; (with_reducible refine (laws_szMark_yes _ _ _ _ _ _ hs (by omega) _).mono ?_); rintro e w9 ⟨rfl, hb⟩; obtain ⟨hc, hf⟩ := bcell hb; have hz := hb.size; have zzb : b < w9.heap.size := (by first | omega | (simp at hz; omega)))
          go_roundw
          case rel => exact ⟨k + 1, x - (N k).size, by omega, by go_num, rfl, by omega, by omega, bwz⟩
          case measure => simp [intOf]; omega
        · go_wp2_with (go_at_call 38; (with_reducible refine (laws_szMark_no _ _ _ _ _ _ (by omega) hx0 (by omega) _).mono ?_); rintro e w9 ⟨rfl, hb⟩; obtain ⟨hc, hf⟩ := bcell hb; have hz := hb.size; have zzb : b < w9.heap.size := (by first | omega | (simp at hz; omega)))
          go_ret
          exact ⟨_, rfl, .inl rfl, bwz⟩
      · go_wp2
        go_ret
        exact ⟨_, rfl, .inr ⟨hx0, hx1, by omega⟩, hbl⟩
set_option maxRecDepth 100000 in
theorem laws_szCourse (ax ay bx bY cx cy dx dy : Int) (so : Option Addr) (n cap : Nat) (N : Nat → ByteArray) (X Y S Z : Nat → Int) (left : Int) (w : World) (h : RowAt w so n 5 (v5 N X Y S Z)) (hN : ∀ i, (N i).size ≤ maxLen) (hn : n ≤ maxLen) (h0 : 0 ≤ left) (h1 : left ≤ 1048576) :
    Calls Tryz.prog 4 #[.agg #[.int .i64 ax, .int .i64 ay, .int .i64 bx, .int .i64 bY, .int .i64 cx, .int .i64 cy, .int .i64 dx, .int .i64 dy, .slice so n cap], .int .i64 left] w fun e w' => ∃ x, e = .returned (.int .i64 x) ∧ LeftQ left n x ∧ Below w.heap.size w w' := by
  go_enter Tryz.func4, Tryz.ntmps4
  go_wp2_with fail
  (with_reducible refine (laws_szMarkS so n cap N X Y S Z left _ (RowAt.later bwz h) hN hn h0 h1).mono ?_); rintro e w9 ⟨x, rfl, hq, hb⟩
  rcases hq with rfl | ⟨k1, k2, k3⟩
  · go_wp2
    go_ret
    exact ⟨_, rfl, .inl rfl, bwz⟩
  · go_wp2
    go_ret
    exact ⟨_, rfl, .inr ⟨k1, k2, k3⟩, bwz⟩
end Go.Proofs.YtiokigjnacmilaaGreatDoor
/- Walks: a course that came in is copied. -/
namespace Go.Proofs.YtiokigjnacmilaaGreatDoor
open Go.RowKit
/-- A course whose marks are a row of the call's own. -/
def CopiedC (w : World) (ax ay bx bY cx cy dx dy : Int) (n : Nat) (V : Nat → Nat → Value) (e : Ending) (w' : World) : Prop :=
  ∃ g, e = .returned (.agg #[.int .i64 ax, .int .i64 ay, .int .i64 bx, .int .i64 bY, .int .i64 cx, .int .i64 cy, .int .i64 dx, .int .i64 dy, .slice (some ⟨g, 0, none⟩) n n]) ∧ RowAt w' (some ⟨g, 0, none⟩) n 5 V ∧ Mine w' g (n * 5) ∧ w.heap.size ≤ g ∧ g < w'.heap.size ∧ Below w.heap.size w w'
set_option maxRecDepth 100000 in
set_option maxHeartbeats 4000000 in
theorem laws_toCourse (ax ay bx bY cx cy dx dy : Int) (so : Option Addr) (n cap : Nat) (N : Nat → ByteArray) (X Y S Z : Nat → Int) (w : World) (h : RowAt w so n 5 (v5 N X Y S Z)) (hn : n ≤ 1048576) :
    Calls Tryz.prog 7 #[.agg #[.int .i64 ax, .int .i64 ay, .int .i64 bx, .int .i64 bY, .int .i64 cx, .int .i64 cy, .int .i64 dx, .int .i64 dy, .slice so n cap]] w (CopiedC w ax ay bx bY cx cy dx dy n (v5 N X Y S Z)) := by
  have KL := hide (fun (a b c d : Int) W => laws_toLine a b c d W)
  go_enter Tryz.func7, Tryz.ntmps7
  go_wp2_with fail; (with_reducible refine (KL.out _ _ _ _ _).mono ?_); rintro e w1 ⟨rfl, hb1⟩; obtain ⟨hc1, hf1⟩ := bcell hb1
  have hz1 := hb1.size
  (try simp only [size_al] at hz1)
  have zz1_0 : w.heap.size < w1.heap.size := (by first | omega | (simp at hz1; omega))
  have zz1_1 : w.heap.size + 1 < w1.heap.size := (by first | omega | (simp at hz1; omega))
  have zz1_2 : w.heap.size + 1 + 1 < w1.heap.size := (by first | omega | (simp at hz1; omega))
  have c1_0_4 : w1.cell? ⟨w.heap.size, 4, none⟩ = some (.int .i64 cx) := by rw [hc1 _ _ (by first | (simp; done) | (simp; omega))]; go_simp
  have c1_0_5 : w1.cell? ⟨w.heap.size, 5, none⟩ = some (.int .i64 cy) := by rw [hc1 _ _ (by first | (simp; done) | (simp; omega))]; go_simp
  have c1_0_6 : w1.cell? ⟨w.heap.size, 6, none⟩ = some (.int .i64 dx) := by rw [hc1 _ _ (by first | (simp; done) | (simp; omega))]; go_simp
  have c1_0_7 : w1.cell? ⟨w.heap.size, 7, none⟩ = some (.int .i64 dy) := by rw [hc1 _ _ (by first | (simp; done) | (simp; omega))]; go_simp
  have c1_0_8 : w1.cell? ⟨w.heap.size, 8, none⟩ = some (.slice so n cap) := by rw [hc1 _ _ (by first | (simp; done) | (simp; omega))]; go_simp
  have c1_1_0 : w1.cell? ⟨w.heap.size + 1, 0, none⟩ = some (.int .i64 0) := by rw [hc1 _ _ (by first | (simp; done) | (simp; omega))]; go_simp
  have d1_1_0 : w1.frozen? ⟨w.heap.size + 1, 0, none⟩ = false := by rw [hf1 _ _ (by first | (simp; done) | (simp; omega))]; go_simp
  have c1_1_1 : w1.cell? ⟨w.heap.size + 1, 1, none⟩ = some (.int .i64 0) := by rw [hc1 _ _ (by first | (simp; done) | (simp; omega))]; go_simp
  have d1_1_1 : w1.frozen? ⟨w.heap.size + 1, 1, none⟩ = false := by rw [hf1 _ _ (by first | (simp; done) | (simp; omega))]; go_simp
  have c1_1_2 : w1.cell? ⟨w.heap.size + 1, 2, none⟩ = some (.int .i64 0) := by rw [hc1 _ _ (by first | (simp; done) | (simp; omega))]; go_simp
  have d1_1_2 : w1.frozen? ⟨w.heap.size + 1, 2, none⟩ = false := by rw [hf1 _ _ (by first | (simp; done) | (simp; omega))]; go_simp
  have c1_1_3 : w1.cell? ⟨w.heap.size + 1, 3, none⟩ = some (.int .i64 0) := by rw [hc1 _ _ (by first | (simp; done) | (simp; omega))]; go_simp
  have d1_1_3 : w1.frozen? ⟨w.heap.size + 1, 3, none⟩ = false := by rw [hf1 _ _ (by first | (simp; done) | (simp; omega))]; go_simp
  have c1_1_4 : w1.cell? ⟨w.heap.size + 1, 4, none⟩ = some (.int .i64 0) := by rw [hc1 _ _ (by first | (simp; done) | (simp; omega))]; go_simp
  have d1_1_4 : w1.frozen? ⟨w.heap.size + 1, 4, none⟩ = false := by rw [hf1 _ _ (by first | (simp; done) | (simp; omega))]; go_simp
  have c1_1_5 : w1.cell? ⟨w.heap.size + 1, 5, none⟩ = some (.int .i64 0) := by rw [hc1 _ _ (by first | (simp; done) | (simp; omega))]; go_simp
  have d1_1_5 : w1.frozen? ⟨w.heap.size + 1, 5, none⟩ = false := by rw [hf1 _ _ (by first | (simp; done) | (simp; omega))]; go_simp
  have c1_1_6 : w1.cell? ⟨w.heap.size + 1, 6, none⟩ = some (.int .i64 0) := by rw [hc1 _ _ (by first | (simp; done) | (simp; omega))]; go_simp
  have d1_1_6 : w1.frozen? ⟨w.heap.size + 1, 6, none⟩ = false := by rw [hf1 _ _ (by first | (simp; done) | (simp; omega))]; go_simp
  have c1_1_7 : w1.cell? ⟨w.heap.size + 1, 7, none⟩ = some (.int .i64 0) := by rw [hc1 _ _ (by first | (simp; done) | (simp; omega))]; go_simp
  have d1_1_7 : w1.frozen? ⟨w.heap.size + 1, 7, none⟩ = false := by rw [hf1 _ _ (by first | (simp; done) | (simp; omega))]; go_simp
  have c1_1_8 : w1.cell? ⟨w.heap.size + 1, 8, none⟩ = some (.slice none 0 0) := by rw [hc1 _ _ (by first | (simp; done) | (simp; omega))]; go_simp
  have d1_1_8 : w1.frozen? ⟨w.heap.size + 1, 8, none⟩ = false := by rw [hf1 _ _ (by first | (simp; done) | (simp; omega))]; go_simp
  have c1_2_0 : w1.cell? ⟨w.heap.size + 1 + 1, 0, none⟩ = some (.int .i64 0) := by rw [hc1 _ _ (by first | (simp; done) | (simp; omega))]; go_simp
  have d1_2_0 : w1.frozen? ⟨w.heap.size + 1 + 1, 0, none⟩ = false := by rw [hf1 _ _ (by first | (simp; done) | (simp; omega))]; go_simp
  have c1_2_1 : w1.cell? ⟨w.heap.size + 1 + 1, 1, none⟩ = some (.int .i64 0) := by rw [hc1 _ _ (by first | (simp; done) | (simp; omega))]; go_simp
  have d1_2_1 : w1.frozen? ⟨w.heap.size + 1 + 1, 1, none⟩ = false := by rw [hf1 _ _ (by first | (simp; done) | (simp; omega))]; go_simp
  have c1_2_2 : w1.cell? ⟨w.heap.size + 1 + 1, 2, none⟩ = some (.int .i64 0) := by rw [hc1 _ _ (by first | (simp; done) | (simp; omega))]; go_simp
  have d1_2_2 : w1.frozen? ⟨w.heap.size + 1 + 1, 2, none⟩ = false := by rw [hf1 _ _ (by first | (simp; done) | (simp; omega))]; go_simp
  have c1_2_3 : w1.cell? ⟨w.heap.size + 1 + 1, 3, none⟩ = some (.int .i64 0) := by rw [hc1 _ _ (by first | (simp; done) | (simp; omega))]; go_simp
  have d1_2_3 : w1.frozen? ⟨w.heap.size + 1 + 1, 3, none⟩ = false := by rw [hf1 _ _ (by first | (simp; done) | (simp; omega))]; go_simp
  have c1_2_4 : w1.cell? ⟨w.heap.size + 1 + 1, 4, none⟩ = some (.int .i64 0) := by rw [hc1 _ _ (by first | (simp; done) | (simp; omega))]; go_simp
  have d1_2_4 : w1.frozen? ⟨w.heap.size + 1 + 1, 4, none⟩ = false := by rw [hf1 _ _ (by first | (simp; done) | (simp; omega))]; go_simp
  have c1_2_5 : w1.cell? ⟨w.heap.size + 1 + 1, 5, none⟩ = some (.int .i64 0) := by rw [hc1 _ _ (by first | (simp; done) | (simp; omega))]; go_simp
  have d1_2_5 : w1.frozen? ⟨w.heap.size + 1 + 1, 5, none⟩ = false := by rw [hf1 _ _ (by first | (simp; done) | (simp; omega))]; go_simp
  have c1_2_6 : w1.cell? ⟨w.heap.size + 1 + 1, 6, none⟩ = some (.int .i64 0) := by rw [hc1 _ _ (by first | (simp; done) | (simp; omega))]; go_simp
  have d1_2_6 : w1.frozen? ⟨w.heap.size + 1 + 1, 6, none⟩ = false := by rw [hf1 _ _ (by first | (simp; done) | (simp; omega))]; go_simp
  have c1_2_7 : w1.cell? ⟨w.heap.size + 1 + 1, 7, none⟩ = some (.int .i64 0) := by rw [hc1 _ _ (by first | (simp; done) | (simp; omega))]; go_simp
  have d1_2_7 : w1.frozen? ⟨w.heap.size + 1 + 1, 7, none⟩ = false := by rw [hf1 _ _ (by first | (simp; done) | (simp; omega))]; go_simp
  have c1_2_8 : w1.cell? ⟨w.heap.size + 1 + 1, 8, none⟩ = some (.slice none 0 0) := by rw [hc1 _ _ (by first | (simp; done) | (simp; omega))]; go_simp
  have d1_2_8 : w1.frozen? ⟨w.heap.size + 1 + 1, 8, none⟩ = false := by rw [hf1 _ _ (by first | (simp; done) | (simp; omega))]; go_simp
  have HB1 := hide (show Below w.heap.size w w1 from bwz)
  clear hc1 hf1 hb1
  go_wp2_with fail; (with_reducible refine (KL.out _ _ _ _ _).mono ?_); rintro e w2 ⟨rfl, hb2⟩; obtain ⟨hc2, hf2⟩ := bcell hb2
  have hz2 := hb2.size
  (try simp only [size_al] at hz2)
  have zz2_0 : w.heap.size < w2.heap.size := (by first | omega | (simp at hz2; omega))
  have zz2_1 : w.heap.size + 1 < w2.heap.size := (by first | omega | (simp at hz2; omega))
  have zz2_2 : w.heap.size + 1 + 1 < w2.heap.size := (by first | omega | (simp at hz2; omega))
  have c2_0_8 : w2.cell? ⟨w.heap.size, 8, none⟩ = some (.slice so n cap) := by rw [hc2 _ _ (by first | (simp; done) | (simp; omega))]; go_simp
  have c2_1_0 : w2.cell? ⟨w.heap.size + 1, 0, none⟩ = some (.int .i64 0) := by rw [hc2 _ _ (by first | (simp; done) | (simp; omega))]; go_simp
  have d2_1_0 : w2.frozen? ⟨w.heap.size + 1, 0, none⟩ = false := by rw [hf2 _ _ (by first | (simp; done) | (simp; omega))]; go_simp
  have c2_1_1 : w2.cell? ⟨w.heap.size + 1, 1, none⟩ = some (.int .i64 0) := by rw [hc2 _ _ (by first | (simp; done) | (simp; omega))]; go_simp
  have d2_1_1 : w2.frozen? ⟨w.heap.size + 1, 1, none⟩ = false := by rw [hf2 _ _ (by first | (simp; done) | (simp; omega))]; go_simp
  have c2_1_2 : w2.cell? ⟨w.heap.size + 1, 2, none⟩ = some (.int .i64 0) := by rw [hc2 _ _ (by first | (simp; done) | (simp; omega))]; go_simp
  have d2_1_2 : w2.frozen? ⟨w.heap.size + 1, 2, none⟩ = false := by rw [hf2 _ _ (by first | (simp; done) | (simp; omega))]; go_simp
  have c2_1_3 : w2.cell? ⟨w.heap.size + 1, 3, none⟩ = some (.int .i64 0) := by rw [hc2 _ _ (by first | (simp; done) | (simp; omega))]; go_simp
  have d2_1_3 : w2.frozen? ⟨w.heap.size + 1, 3, none⟩ = false := by rw [hf2 _ _ (by first | (simp; done) | (simp; omega))]; go_simp
  have c2_1_4 : w2.cell? ⟨w.heap.size + 1, 4, none⟩ = some (.int .i64 0) := by rw [hc2 _ _ (by first | (simp; done) | (simp; omega))]; go_simp
  have d2_1_4 : w2.frozen? ⟨w.heap.size + 1, 4, none⟩ = false := by rw [hf2 _ _ (by first | (simp; done) | (simp; omega))]; go_simp
  have c2_1_5 : w2.cell? ⟨w.heap.size + 1, 5, none⟩ = some (.int .i64 0) := by rw [hc2 _ _ (by first | (simp; done) | (simp; omega))]; go_simp
  have d2_1_5 : w2.frozen? ⟨w.heap.size + 1, 5, none⟩ = false := by rw [hf2 _ _ (by first | (simp; done) | (simp; omega))]; go_simp
  have c2_1_6 : w2.cell? ⟨w.heap.size + 1, 6, none⟩ = some (.int .i64 0) := by rw [hc2 _ _ (by first | (simp; done) | (simp; omega))]; go_simp
  have d2_1_6 : w2.frozen? ⟨w.heap.size + 1, 6, none⟩ = false := by rw [hf2 _ _ (by first | (simp; done) | (simp; omega))]; go_simp
  have c2_1_7 : w2.cell? ⟨w.heap.size + 1, 7, none⟩ = some (.int .i64 0) := by rw [hc2 _ _ (by first | (simp; done) | (simp; omega))]; go_simp
  have d2_1_7 : w2.frozen? ⟨w.heap.size + 1, 7, none⟩ = false := by rw [hf2 _ _ (by first | (simp; done) | (simp; omega))]; go_simp
  have c2_1_8 : w2.cell? ⟨w.heap.size + 1, 8, none⟩ = some (.slice none 0 0) := by rw [hc2 _ _ (by first | (simp; done) | (simp; omega))]; go_simp
  have d2_1_8 : w2.frozen? ⟨w.heap.size + 1, 8, none⟩ = false := by rw [hf2 _ _ (by first | (simp; done) | (simp; omega))]; go_simp
  have c2_2_0 : w2.cell? ⟨w.heap.size + 1 + 1, 0, none⟩ = some (.int .i64 ax) := by rw [hc2 _ _ (by first | (simp; done) | (simp; omega))]; go_simp
  have d2_2_0 : w2.frozen? ⟨w.heap.size + 1 + 1, 0, none⟩ = false := by rw [hf2 _ _ (by first | (simp; done) | (simp; omega))]; go_simp
  have c2_2_1 : w2.cell? ⟨w.heap.size + 1 + 1, 1, none⟩ = some (.int .i64 ay) := by rw [hc2 _ _ (by first | (simp; done) | (simp; omega))]; go_simp
  have d2_2_1 : w2.frozen? ⟨w.heap.size + 1 + 1, 1, none⟩ = false := by rw [hf2 _ _ (by first | (simp; done) | (simp; omega))]; go_simp
  have c2_2_2 : w2.cell? ⟨w.heap.size + 1 + 1, 2, none⟩ = some (.int .i64 bx) := by rw [hc2 _ _ (by first | (simp; done) | (simp; omega))]; go_simp
  have d2_2_2 : w2.frozen? ⟨w.heap.size + 1 + 1, 2, none⟩ = false := by rw [hf2 _ _ (by first | (simp; done) | (simp; omega))]; go_simp
  have c2_2_3 : w2.cell? ⟨w.heap.size + 1 + 1, 3, none⟩ = some (.int .i64 bY) := by rw [hc2 _ _ (by first | (simp; done) | (simp; omega))]; go_simp
  have d2_2_3 : w2.frozen? ⟨w.heap.size + 1 + 1, 3, none⟩ = false := by rw [hf2 _ _ (by first | (simp; done) | (simp; omega))]; go_simp
  have c2_2_4 : w2.cell? ⟨w.heap.size + 1 + 1, 4, none⟩ = some (.int .i64 0) := by rw [hc2 _ _ (by first | (simp; done) | (simp; omega))]; go_simp
  have d2_2_4 : w2.frozen? ⟨w.heap.size + 1 + 1, 4, none⟩ = false := by rw [hf2 _ _ (by first | (simp; done) | (simp; omega))]; go_simp
  have c2_2_5 : w2.cell? ⟨w.heap.size + 1 + 1, 5, none⟩ = some (.int .i64 0) := by rw [hc2 _ _ (by first | (simp; done) | (simp; omega))]; go_simp
  have d2_2_5 : w2.frozen? ⟨w.heap.size + 1 + 1, 5, none⟩ = false := by rw [hf2 _ _ (by first | (simp; done) | (simp; omega))]; go_simp
  have c2_2_6 : w2.cell? ⟨w.heap.size + 1 + 1, 6, none⟩ = some (.int .i64 0) := by rw [hc2 _ _ (by first | (simp; done) | (simp; omega))]; go_simp
  have d2_2_6 : w2.frozen? ⟨w.heap.size + 1 + 1, 6, none⟩ = false := by rw [hf2 _ _ (by first | (simp; done) | (simp; omega))]; go_simp
  have c2_2_7 : w2.cell? ⟨w.heap.size + 1 + 1, 7, none⟩ = some (.int .i64 0) := by rw [hc2 _ _ (by first | (simp; done) | (simp; omega))]; go_simp
  have d2_2_7 : w2.frozen? ⟨w.heap.size + 1 + 1, 7, none⟩ = false := by rw [hf2 _ _ (by first | (simp; done) | (simp; omega))]; go_simp
  have c2_2_8 : w2.cell? ⟨w.heap.size + 1 + 1, 8, none⟩ = some (.slice none 0 0) := by rw [hc2 _ _ (by first | (simp; done) | (simp; omega))]; go_simp
  have d2_2_8 : w2.frozen? ⟨w.heap.size + 1 + 1, 8, none⟩ = false := by rw [hf2 _ _ (by first | (simp; done) | (simp; omega))]; go_simp
  have HB2 := hide (show Below w.heap.size w w2 from (Below.setCell (Below.setCell (Below.setCell (Below.setCell HB1.out (by dsimp only; omega) _) (by dsimp only; omega) _) (by dsimp only; omega) _) (by dsimp only; omega) _).trans (hb2.mono (by simp; omega)))
  clear hc2 hf2 hb2 c1_0_4 c1_0_5 c1_0_6 c1_0_7 c1_0_8 c1_1_0 d1_1_0 c1_1_1 d1_1_1 c1_1_2 d1_1_2 c1_1_3 d1_1_3 c1_1_4 d1_1_4 c1_1_5 d1_1_5 c1_1_6 d1_1_6 c1_1_7 d1_1_7 c1_1_8 d1_1_8 c1_2_0 d1_2_0 c1_2_1 d1_2_1 c1_2_2 d1_2_2 c1_2_3 d1_2_3 c1_2_4 d1_2_4 c1_2_5 d1_2_5 c1_2_6 d1_2_6 c1_2_7 d1_2_7 c1_2_8 d1_2_8
  go_wp2_with fail; (with_reducible refine (laws_toMarkS so n cap N X Y S Z _ (RowAt.later (Below.setCell (Below.setCell (Below.setCell (Below.setCell HB2.out (by dsimp only; omega) _) (by dsimp only; omega) _) (by dsimp only; omega) _) (by dsimp only; omega) _) h) hn).mono ?_); rintro e w3 ⟨g, rfl, hrow, hmine, hge, hgl, hb3⟩; obtain ⟨hc3, hf3⟩ := bcell hb3; (simp at hge)
  have hz3 := hb3.size
  (try simp only [size_al] at hz3)
  have zz3_0 : w.heap.size < w3.heap.size := (by first | omega | (simp at hz3; omega))
  have zz3_1 : w.heap.size + 1 < w3.heap.size := (by first | omega | (simp at hz3; omega))
  have zz3_2 : w.heap.size + 1 + 1 < w3.heap.size := (by first | omega | (simp at hz3; omega))
  have c3_1_0 : w3.cell? ⟨w.heap.size + 1, 0, none⟩ = some (.int .i64 0) := by rw [hc3 _ _ (by first | (simp; done) | (simp; omega))]; go_simp
  have d3_1_0 : w3.frozen? ⟨w.heap.size + 1, 0, none⟩ = false := by rw [hf3 _ _ (by first | (simp; done) | (simp; omega))]; go_simp
  have c3_1_1 : w3.cell? ⟨w.heap.size + 1, 1, none⟩ = some (.int .i64 0) := by rw [hc3 _ _ (by first | (simp; done) | (simp; omega))]; go_simp
  have d3_1_1 : w3.frozen? ⟨w.heap.size + 1, 1, none⟩ = false := by rw [hf3 _ _ (by first | (simp; done) | (simp; omega))]; go_simp
  have c3_1_2 : w3.cell? ⟨w.heap.size + 1, 2, none⟩ = some (.int .i64 0) := by rw [hc3 _ _ (by first | (simp; done) | (simp; omega))]; go_simp
  have d3_1_2 : w3.frozen? ⟨w.heap.size + 1, 2, none⟩ = false := by rw [hf3 _ _ (by first | (simp; done) | (simp; omega))]; go_simp
  have c3_1_3 : w3.cell? ⟨w.heap.size + 1, 3, none⟩ = some (.int .i64 0) := by rw [hc3 _ _ (by first | (simp; done) | (simp; omega))]; go_simp
  have d3_1_3 : w3.frozen? ⟨w.heap.size + 1, 3, none⟩ = false := by rw [hf3 _ _ (by first | (simp; done) | (simp; omega))]; go_simp
  have c3_1_4 : w3.cell? ⟨w.heap.size + 1, 4, none⟩ = some (.int .i64 0) := by rw [hc3 _ _ (by first | (simp; done) | (simp; omega))]; go_simp
  have d3_1_4 : w3.frozen? ⟨w.heap.size + 1, 4, none⟩ = false := by rw [hf3 _ _ (by first | (simp; done) | (simp; omega))]; go_simp
  have c3_1_5 : w3.cell? ⟨w.heap.size + 1, 5, none⟩ = some (.int .i64 0) := by rw [hc3 _ _ (by first | (simp; done) | (simp; omega))]; go_simp
  have d3_1_5 : w3.frozen? ⟨w.heap.size + 1, 5, none⟩ = false := by rw [hf3 _ _ (by first | (simp; done) | (simp; omega))]; go_simp
  have c3_1_6 : w3.cell? ⟨w.heap.size + 1, 6, none⟩ = some (.int .i64 0) := by rw [hc3 _ _ (by first | (simp; done) | (simp; omega))]; go_simp
  have d3_1_6 : w3.frozen? ⟨w.heap.size + 1, 6, none⟩ = false := by rw [hf3 _ _ (by first | (simp; done) | (simp; omega))]; go_simp
  have c3_1_7 : w3.cell? ⟨w.heap.size + 1, 7, none⟩ = some (.int .i64 0) := by rw [hc3 _ _ (by first | (simp; done) | (simp; omega))]; go_simp
  have d3_1_7 : w3.frozen? ⟨w.heap.size + 1, 7, none⟩ = false := by rw [hf3 _ _ (by first | (simp; done) | (simp; omega))]; go_simp
  have c3_1_8 : w3.cell? ⟨w.heap.size + 1, 8, none⟩ = some (.slice none 0 0) := by rw [hc3 _ _ (by first | (simp; done) | (simp; omega))]; go_simp
  have d3_1_8 : w3.frozen? ⟨w.heap.size + 1, 8, none⟩ = false := by rw [hf3 _ _ (by first | (simp; done) | (simp; omega))]; go_simp
  have c3_2_0 : w3.cell? ⟨w.heap.size + 1 + 1, 0, none⟩ = some (.int .i64 ax) := by rw [hc3 _ _ (by first | (simp; done) | (simp; omega))]; go_simp
  have d3_2_0 : w3.frozen? ⟨w.heap.size + 1 + 1, 0, none⟩ = false := by rw [hf3 _ _ (by first | (simp; done) | (simp; omega))]; go_simp
  have c3_2_1 : w3.cell? ⟨w.heap.size + 1 + 1, 1, none⟩ = some (.int .i64 ay) := by rw [hc3 _ _ (by first | (simp; done) | (simp; omega))]; go_simp
  have d3_2_1 : w3.frozen? ⟨w.heap.size + 1 + 1, 1, none⟩ = false := by rw [hf3 _ _ (by first | (simp; done) | (simp; omega))]; go_simp
  have c3_2_2 : w3.cell? ⟨w.heap.size + 1 + 1, 2, none⟩ = some (.int .i64 bx) := by rw [hc3 _ _ (by first | (simp; done) | (simp; omega))]; go_simp
  have d3_2_2 : w3.frozen? ⟨w.heap.size + 1 + 1, 2, none⟩ = false := by rw [hf3 _ _ (by first | (simp; done) | (simp; omega))]; go_simp
  have c3_2_3 : w3.cell? ⟨w.heap.size + 1 + 1, 3, none⟩ = some (.int .i64 bY) := by rw [hc3 _ _ (by first | (simp; done) | (simp; omega))]; go_simp
  have d3_2_3 : w3.frozen? ⟨w.heap.size + 1 + 1, 3, none⟩ = false := by rw [hf3 _ _ (by first | (simp; done) | (simp; omega))]; go_simp
  have c3_2_4 : w3.cell? ⟨w.heap.size + 1 + 1, 4, none⟩ = some (.int .i64 cx) := by rw [hc3 _ _ (by first | (simp; done) | (simp; omega))]; go_simp
  have d3_2_4 : w3.frozen? ⟨w.heap.size + 1 + 1, 4, none⟩ = false := by rw [hf3 _ _ (by first | (simp; done) | (simp; omega))]; go_simp
  have c3_2_5 : w3.cell? ⟨w.heap.size + 1 + 1, 5, none⟩ = some (.int .i64 cy) := by rw [hc3 _ _ (by first | (simp; done) | (simp; omega))]; go_simp
  have d3_2_5 : w3.frozen? ⟨w.heap.size + 1 + 1, 5, none⟩ = false := by rw [hf3 _ _ (by first | (simp; done) | (simp; omega))]; go_simp
  have c3_2_6 : w3.cell? ⟨w.heap.size + 1 + 1, 6, none⟩ = some (.int .i64 dx) := by rw [hc3 _ _ (by first | (simp; done) | (simp; omega))]; go_simp
  have d3_2_6 : w3.frozen? ⟨w.heap.size + 1 + 1, 6, none⟩ = false := by rw [hf3 _ _ (by first | (simp; done) | (simp; omega))]; go_simp
  have c3_2_7 : w3.cell? ⟨w.heap.size + 1 + 1, 7, none⟩ = some (.int .i64 dy) := by rw [hc3 _ _ (by first | (simp; done) | (simp; omega))]; go_simp
  have d3_2_7 : w3.frozen? ⟨w.heap.size + 1 + 1, 7, none⟩ = false := by rw [hf3 _ _ (by first | (simp; done) | (simp; omega))]; go_simp
  have c3_2_8 : w3.cell? ⟨w.heap.size + 1 + 1, 8, none⟩ = some (.slice none 0 0) := by rw [hc3 _ _ (by first | (simp; done) | (simp; omega))]; go_simp
  have d3_2_8 : w3.frozen? ⟨w.heap.size + 1 + 1, 8, none⟩ = false := by rw [hf3 _ _ (by first | (simp; done) | (simp; omega))]; go_simp
  have HB3 := hide (show Below w.heap.size w w3 from (Below.setCell (Below.setCell (Below.setCell (Below.setCell HB2.out (by dsimp only; omega) _) (by dsimp only; omega) _) (by dsimp only; omega) _) (by dsimp only; omega) _).trans (hb3.mono (by simp; omega)))
  have Hrow := hide hrow
  have Hmine := hide hmine
  have hg0 : w.heap.size + 1 + 1 < g := by omega
  clear hc3 hf3 hb3 hrow hmine c2_0_8 c2_1_0 d2_1_0 c2_1_1 d2_1_1 c2_1_2 d2_1_2 c2_1_3 d2_1_3 c2_1_4 d2_1_4 c2_1_5 d2_1_5 c2_1_6 d2_1_6 c2_1_7 d2_1_7 c2_1_8 d2_1_8 c2_2_0 d2_2_0 c2_2_1 d2_2_1 c2_2_2 d2_2_2 c2_2_3 d2_2_3 c2_2_4 d2_2_4 c2_2_5 d2_2_5 c2_2_6 d2_2_6 c2_2_7 d2_2_7 c2_2_8 d2_2_8
  go_wp2
  simp [bodyPost, results, Tryz.results7, go_sem, *]
  refine ⟨g, rfl, ?_, ?_, by omega, by simpa using hgl, ?_⟩
  · (repeat with_reducible refine row_set ?_ (by dsimp only; omega)); exact Hrow.out
  · (repeat with_reducible refine Mine.set ?_); exact Hmine.out
  · (repeat with_reducible refine Below.setCell ?_ (by dsimp only; omega) _); exact HB3.out
end Go.Proofs.YtiokigjnacmilaaGreatDoor
