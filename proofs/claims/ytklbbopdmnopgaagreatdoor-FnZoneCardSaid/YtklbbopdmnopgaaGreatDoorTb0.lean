/- Walks: valid tracks, and legs. -/
import Derived.Test.YtklbbopdmnopgaaGreatDoorBs
import Derived.Test.YtklbbopdmnopgaaGreatDoorBase
import Derived.Test.YtklbbopdmnopgaaGreatDoorA
import Derived.Deep.RegionHeld3
import Derived.Deep.DeepCutAuto
namespace Go.Proofs.YtklbbopdmnopgaaGreatDoor
open Go.RowKit

theorem impl_isTime (n : Int) (w : World) : Calls Tryz.prog 59 #[.int .i64 n] w fun e w' => e = .returned (.bool (inB n 0 1000000000)) ∧ w = w' := by
 go_enter Tryz.func59, Tryz.ntmps59
 go_wp2_with (go_at_call 26; (with_reducible refine (impl_within _ _ _ _).mono ?_); rintro e w9 ⟨rfl, rfl⟩)
 go_ret
 exact ⟨rfl, rfl⟩
theorem impl_pointOf (a x y : Int) (w : World) : Calls Tryz.prog 60 #[.agg #[.int .i64 a, .int .i64 x, .int .i64 y]] w fun e w' => e = .returned (.agg #[.int .i64 x, .int .i64 y]) ∧ Below w.heap.size w w' := by
 go_enter Tryz.func60, Tryz.ntmps60
 go_wp2
 simp [bodyPost, results, Tryz.results60, go_sem, *]
 exact bwz
theorem spec_l03Point (a x y : Int) (w : World) : Calls Tryz.prog 66 #[.agg #[.int .i64 a, .int .i64 x, .int .i64 y]] w fun e w' => e = .returned (.agg #[.int .i64 x, .int .i64 y]) ∧ Below w.heap.size w w' := by
 go_enter Tryz.func66, Tryz.ntmps66
 go_wp2
 simp [bodyPost, results, Tryz.results66, go_sem, *]
 exact bwz
theorem fixOk_a {T X Y : Nat → Int} {k : Nat} (h : inB (T k) 0 1000000000 = false) : fixOk T X Y k = false := by unfold fixOk; rw [h]; rfl
theorem fixOk_b {T X Y : Nat → Int} {k : Nat} (h : isPt (X k) (Y k) = false) : fixOk T X Y k = false := by unfold fixOk; rw [h, Bool.and_false]; rfl
theorem fixOk_0 {T X Y : Nat → Int} (h1 : inB (T 0) 0 1000000000 = true) (h : isPt (X 0) (Y 0) = true) : fixOk T X Y 0 = true := by unfold fixOk; rw [h, h1]; rfl
theorem fixOk_1 {T X Y : Nat → Int} {j : Nat} (h1 : inB (T (j + 1)) 0 1000000000 = true) (h : isPt (X (j + 1)) (Y (j + 1)) = true) (h2 : T j < T (j + 1)) : fixOk T X Y (j + 1) = true := by
 have e : decide (T (j + 1) ≤ T (j + 1 - 1)) = false := decide_eq_false (by simp; omega)
 unfold fixOk; rw [h, h1, e]; simp
theorem fixOk_2 {T X Y : Nat → Int} {j : Nat} (h2 : T (j + 1) ≤ T j) : fixOk T X Y (j + 1) = false := by
 have e : decide (T (j + 1) ≤ T (j + 1 - 1)) = true := decide_eq_true h2
 unfold fixOk; rw [e]; simp
theorem isTr_f {T X Y : Nat → Int} {n k : Nat} (hk : k < n) (h : fixOk T X Y k = false) : isTr n T X Y = false := by unfold isTr; rw [fixesOk_f hk h]; rfl
theorem fixes_step {T X Y : Nat → Int} {k : Nat} (h : fixesOk T X Y k = true) (h2 : fixOk T X Y k = true) : fixesOk T X Y (k + 1) = true := by unfold fixesOk; rw [h, h2]; rfl
end Go.Proofs.YtklbbopdmnopgaaGreatDoor
