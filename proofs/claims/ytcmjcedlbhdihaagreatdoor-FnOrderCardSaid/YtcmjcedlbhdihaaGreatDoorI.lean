/- Walks: segments: within a distance, on a segment, crossing, meeting. -/
import Derived.Test.YtcmjcedlbhdihaaGreatDoorE
import Derived.Deep.QuietTactic
import Derived.BigQuiet
namespace Go.Proofs.YtcmjcedlbhdihaaGreatDoor
open Go.RowKit

theorem ret_bi {a b : Bool} {c : Int} (h : a = b) : Ending.returned (.tuple #[.bool a, .int .i64 c]) = .returned (.tuple #[.bool b, .int .i64 c]) := by rw [h]
def isSg (ax ay bx bY : Int) : Bool := isPt ax ay && isPt bx bY && !(ax == bx && ay == bY)
theorem isSg_t {ax ay bx bY : Int} (h : isSg ax ay bx bY = true) : isPt ax ay = true ∧ isPt bx bY = true ∧ 1 ≤ sq ax ay bx bY := by
 simp only [isSg, Bool.and_eq_true] at h
 refine ⟨h.1.1, h.1.2, ?_⟩
 have hn : ¬ (ax = bx ∧ ay = bY) := by have := h.2; simp at this; omega
 have h1 := mul_self_nonneg' (ax - bx)
 have h2 := mul_self_nonneg' (ay - bY)
 unfold sq
 rcases Classical.em (ax = bx) with h3 | h3
 ·have h4 : ay - bY ≠ 0 := by intro k; exact hn ⟨h3, by omega⟩
  have : 1 ≤ (ay - bY) * (ay - bY) := by
   rcases Int.lt_or_gt_of_ne h4 with k | k
   ·have := Int.mul_pos_of_neg_of_neg k k; omega
   ·have := Int.mul_pos k k; omega
  omega
 ·have h4 : ax - bx ≠ 0 := by omega
  have : 1 ≤ (ax - bx) * (ax - bx) := by
   rcases Int.lt_or_gt_of_ne h4 with k | k
   ·have := Int.mul_pos_of_neg_of_neg k k; omega
   ·have := Int.mul_pos k k; omega
  omega
theorem pt_bd3 {ax ay bx bY px py : Int} (h1 : isPt ax ay = true) (h2 : isPt bx bY = true) (h3 : isPt px py = true) :
 -8000000000000 ≤ farI ax ay bx bY px py ∧ farI ax ay bx bY px py ≤ 8000000000000 ∧ -8000000000000 ≤ crs ax ay bx bY px py ∧ crs ax ay bx bY px py ≤ 8000000000000 := by
 obtain ⟨a1, a2, a3, a4⟩ := isPt_t h1
 obtain ⟨b1, b2, b3, b4⟩ := isPt_t h2
 obtain ⟨c1, c2, c3, c4⟩ := isPt_t h3
 have k1 := mul_bd' (a := px - ax) (b := bx - ax) 2000000 2000000 4000000000000 (by omega) (by omega) (by omega) (by omega) (by decide)
 have k2 := mul_bd' (a := py - ay) (b := bY - ay) 2000000 2000000 4000000000000 (by omega) (by omega) (by omega) (by omega) (by decide)
 have k3 := mul_bd' (a := bx - ax) (b := py - ay) 2000000 2000000 4000000000000 (by omega) (by omega) (by omega) (by omega) (by decide)
 have k4 := mul_bd' (a := bY - ay) (b := px - ax) 2000000 2000000 4000000000000 (by omega) (by omega) (by omega) (by omega) (by decide)
 unfold farI crs
 omega

theorem impl_IsSegment (ax ay bx bY : Int) (w : World) :
 Calls Tryz.prog 67 #[.agg #[.int .i64 ax, .int .i64 ay, .int .i64 bx, .int .i64 bY]] w fun e w' => e = .returned (.bool (isSg ax ay bx bY)) ∧ Below w.heap.size w w' := by
 go_enter Tryz.func67, Tryz.ntmps67
 go_wp2_with (go_at_call 40; (with_reducible refine (impl_IsPoint _ _ _).mono ?_); rintro e w9 ⟨rfl, hb⟩; obtain ⟨hc, hf⟩ := bcell hb; have hz := hb.size; have z0 : w.heap.size < w9.heap.size := (by first | omega | (simp at hz; omega)))
 all_goals (go_ret; exact ⟨by simp_all [isSg], bwz⟩)
end Go.Proofs.YtcmjcedlbhdihaaGreatDoor
