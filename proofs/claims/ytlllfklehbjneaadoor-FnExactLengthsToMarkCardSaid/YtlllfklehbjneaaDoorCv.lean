/- Walks: the mark with a name. -/
import Derived.Test.YtlllfklehbjneaaDoorCs
namespace Go.Proofs.YtlllfklehbjneaaDoor
open Go.RowKit
theorem RowAt.take {w : World} {so : Option Addr} {n m c : Nat} {V : Nat → Nat → Value} (h : RowAt w so n c V) (hm : m ≤ n) : RowAt w so m c V := fun i hi => h i (by omega)
theorem nm_lit (s nm : ByteArray) (x y sd zn : Int) (B : Nat) (w : World) (hB : w.cell? ⟨B, 0, none⟩ = some (.string s)) :
    Calls Tryd.prog 122 #[.agg #[.string nm, .int .i64 x, .int .i64 y, .int .i64 sd, .int .i64 zn], .pointer (some ⟨B, 0, none⟩)] w fun e w' => e = .returned (.bool (decide (nm = s))) ∧ Below w.heap.size w w' := by
  have hBl := World.block_lt_of_cell? _ _ hB
  simp only at hBl
  obtain ⟨b, hb⟩ : ∃ b, b = decide (nm = s) := ⟨_, rfl⟩
  have hE : (nm.toList == s.toList) = b := by rw [nm_beq, hb]
  rw [← hb]
  clear hb
  go_enter Tryd.func122, Tryd.ntmps122
  go_wp2
  all_goals (go_ret; exact ⟨rfl, (by repeat (first | with_reducible exact Below.refl _ _ | with_reducible assumption | with_reducible refine Below.drew ?_ | with_reducible refine below_drewN ?_ _ | with_reducible refine Below.setCell ?_ (by first | exact Nat.le_refl _ | (simp; done) | (simp; omega) | (dsimp only; omega)) _ | with_reducible refine Below.alloc ?_ (by first | exact Nat.le_refl _ | (simp; done) | (simp; omega) | (simp at *; omega)) _ | with_reducible refine bstep ?_ (by assumption)))⟩)
set_option maxRecDepth 100000 in
set_option maxHeartbeats 2000000 in
theorem slices_IndexFunc (so : Option Addr) (n cap : Nat) (N : Nat → ByteArray) (X Y S Z : Nat → Int) (s : ByteArray) (B : Nat) (w : World) (h : RowAt w so n 5 (v5 N X Y S Z)) (hB : w.cell? ⟨B, 0, none⟩ = some (.string s)) (hn : n ≤ 1048576) :
    Calls Tryd.prog 121 #[.slice so n cap, .func (.func 122) #[] #[.pointer (some ⟨B, 0, none⟩)]] w fun e w' => e = .returned (.int .i64 (nameAt N s n)) ∧ Below w.heap.size w w' := by
  have eg := enters_of Tryd.func122 (by kernel_rfl) rfl
  go_enter Tryd.func121, Tryd.ntmps121
  go_wp2
  go_loopw [8] (fun i wr => ∃ k : Nat, k ≤ n ∧ i = .int .i64 k ∧ Hid (fresh N s k = true) ∧ Below w.heap.size w wr) (fun i _ => n - (intOf i).toNat)
  case atStart => exact ⟨0, Nat.zero_le _, rfl, hide rfl, (by repeat (first | with_reducible exact Below.refl _ _ | with_reducible assumption | with_reducible refine Below.drew ?_ | with_reducible refine below_drewN ?_ _ | with_reducible refine Below.setCell ?_ (by first | exact Nat.le_refl _ | (simp; done) | (simp; omega) | (dsimp only; omega)) _ | with_reducible refine Below.alloc ?_ (by first | exact Nat.le_refl _ | (simp; done) | (simp; omega) | (simp at *; omega)) _ | with_reducible refine bstep ?_ (by assumption)))⟩
  case round =>
    obtain ⟨k, hk, rfl, HK, hbl⟩ := hrel
    by_cases hlt : k < n
    · obtain ⟨b, o, rfl, hbs, c0, c1, c2, c3, c4⟩ := (RowAt.later hbl h).at5 k hlt
      have hi0 : (0 : Int) ≤ (k : Int) := by omega
      have hi1 : (k : Int) < (n : Int) := by omega
      have hBc := hide (cell_later hbl hB)
      by_cases e : N k = s
      · have Hr := hide (nameAt_hit hlt e HK.out)
        have He := hide (decide_eq_true e)
        clear e
        go_wp2_with fail
        (with_reducible refine (nm_lit s _ _ _ _ _ B _ hBc.out).mono ?_); rintro e w9 ⟨rfl, hb⟩
        rw [He.out]
        go_wp2
        go_ret
        exact ⟨by rw [Hr.out]; rfl, bstep hbl hb⟩
      · have He := hide (decide_eq_false e)
        have Hf := hide (show fresh N s (k + 1) = true by rw [fresh, HK.out, He.out]; rfl)
        clear e
        go_wp2_with fail
        (with_reducible refine (nm_lit s _ _ _ _ _ B _ hBc.out).mono ?_); rintro e w9 ⟨rfl, hb⟩
        rw [He.out]
        go_wp2
        go_roundw
        case rel => exact ⟨k + 1, by omega, by go_num, Hf, bstep hbl hb⟩
        case measure => simp [intOf]; omega
    · obtain rfl : k = n := by omega
      have Hr := hide (nameAt_miss HK.out)
      go_wp2
      go_ret
      exact ⟨by rw [Hr.out]; rfl, hbl⟩
theorem impl_markNamed (so : Option Addr) (n cap : Nat) (N : Nat → ByteArray) (X Y S Z : Nat → Int) (s : ByteArray) (w : World) (h : RowAt w so n 5 (v5 N X Y S Z)) (hn : n ≤ 1048576) :
    Calls Tryd.prog 109 #[.slice so n cap, .string s] w fun e w' => e = .returned (.int .i64 (nameAt N s n)) ∧ Below w.heap.size w w' := by
  go_enter Tryd.func109, Tryd.ntmps109
  go_wp2_with fail
  (with_reducible refine (slices_IndexFunc so n cap N X Y S Z s w.heap.size _ (RowAt.later (by repeat (first | with_reducible exact Below.refl _ _ | with_reducible assumption | with_reducible refine Below.drew ?_ | with_reducible refine below_drewN ?_ _ | with_reducible refine Below.setCell ?_ (by first | exact Nat.le_refl _ | (simp; done) | (simp; omega) | (dsimp only; omega)) _ | with_reducible refine Below.alloc ?_ (by first | exact Nat.le_refl _ | (simp; done) | (simp; omega) | (simp at *; omega)) _ | with_reducible refine bstep ?_ (by assumption))) h) (by go_simp) hn).mono ?_); rintro e w9 ⟨rfl, hb⟩
  go_wp2
  go_ret
  exact ⟨rfl, (by repeat (first | with_reducible exact Below.refl _ _ | with_reducible assumption | with_reducible refine Below.drew ?_ | with_reducible refine below_drewN ?_ _ | with_reducible refine Below.setCell ?_ (by first | exact Nat.le_refl _ | (simp; done) | (simp; omega) | (dsimp only; omega)) _ | with_reducible refine Below.alloc ?_ (by first | exact Nat.le_refl _ | (simp; done) | (simp; omega) | (simp at *; omega)) _ | with_reducible refine bstep ?_ (by assumption)))⟩
set_option maxRecDepth 100000 in
set_option maxHeartbeats 2000000 in
theorem spec_l04Named (ax ay bx bY cx cy dx dy : Int) (so : Option Addr) (n cap : Nat) (N : Nat → ByteArray) (X Y S Z : Nat → Int) (s : ByteArray) (w : World) (h : RowAt w so n 5 (v5 N X Y S Z)) (hn : n ≤ 1048576) :
    Calls Tryd.prog 93 #[.agg #[.int .i64 ax, .int .i64 ay, .int .i64 bx, .int .i64 bY, .int .i64 cx, .int .i64 cy, .int .i64 dx, .int .i64 dy, .slice so n cap], .string s] w fun e w' => e = .returned (.int .i64 (nameAt N s n)) ∧ Below w.heap.size w w' := by
  go_enter Tryd.func93, Tryd.ntmps93
  go_wp2
  go_loopw [5] (fun i wr => ∃ k : Nat, k ≤ n ∧ i = .int .i64 k ∧ Hid (fresh N s k = true) ∧ wr.cell? ⟨w.heap.size, 8, none⟩ = some (.slice so n cap) ∧ Below w.heap.size w wr) (fun i _ => n - (intOf i).toNat)
  case atStart => exact ⟨0, Nat.zero_le _, rfl, hide rfl, by go_simp, (by repeat (first | with_reducible exact Below.refl _ _ | with_reducible assumption | with_reducible refine Below.drew ?_ | with_reducible refine below_drewN ?_ _ | with_reducible refine Below.setCell ?_ (by first | exact Nat.le_refl _ | (simp; done) | (simp; omega) | (dsimp only; omega)) _ | with_reducible refine Below.alloc ?_ (by first | exact Nat.le_refl _ | (simp; done) | (simp; omega) | (simp at *; omega)) _ | with_reducible refine bstep ?_ (by assumption)))⟩
  case round =>
    obtain ⟨k, hk, rfl, HK, q8, hbl⟩ := hrel
    by_cases hlt : k < n
    · obtain ⟨b, o, rfl, hbs, c0, _, _, _, _⟩ := (RowAt.later hbl h).at5 k hlt
      have hi0 : (0 : Int) ≤ (k : Int) := by omega
      have hi1 : (k : Int) < (n : Int) := by omega
      by_cases e : N k = s
      · have Hr := hide (nameAt_hit hlt e HK.out)
        have hE : ((N k).toList == s.toList) = true := by rw [nm_beq, decide_eq_true e]
        clear e
        go_wp2
        go_ret
        exact ⟨by rw [Hr.out]; rfl, hbl⟩
      · have hE : ((N k).toList == s.toList) = false := by rw [nm_beq, decide_eq_false e]
        have Hf := hide (show fresh N s (k + 1) = true by rw [fresh, HK.out, decide_eq_false e]; rfl)
        clear e
        go_wp2
        go_roundw
        case rel => exact ⟨k + 1, by omega, by go_num, Hf, q8, hbl⟩
        case measure => simp [intOf]; omega
    · obtain rfl : k = n := by omega
      have Hr := hide (nameAt_miss HK.out)
      go_wp2
      go_ret
      exact ⟨by rw [Hr.out]; rfl, hbl⟩
end Go.Proofs.YtlllfklehbjneaaDoor
