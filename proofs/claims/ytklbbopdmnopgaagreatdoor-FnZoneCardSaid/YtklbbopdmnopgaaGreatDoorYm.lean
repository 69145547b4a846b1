/- What the laws of nearest points and zones call besides; plain: a leg that begins in a zone touches it; the position at a fix's time. -/
import Derived.Test.YtklbbopdmnopgaaGreatDoorZl
import Derived.Test.YtklbbopdmnopgaaGreatDoorBp
import Derived.Test.YtklbbopdmnopgaaGreatDoorD
namespace Go.Proofs.YtklbbopdmnopgaaGreatDoor
open Go.RowKit

set_option maxHeartbeats 4000000 in
theorem impl_SquareDistance (px py qx qy : Int) (hp : isPt px py = true) (hq : isPt qx qy = true) (w : World) :
 Calls Tryz.prog 11 #[.agg #[.int .i64 px, .int .i64 py], .agg #[.int .i64 qx, .int .i64 qy]] w fun e w' => e = .returned (.tuple #[.int .i64 (sq px py qx qy), .int .i64 0]) ∧ Below w.heap.size w w' := by
 obtain ⟨s1, s2⟩ := pt_sm hp
 obtain ⟨s3, s4⟩ := pt_sm hq
 have KP := hide (fun W => hp ▸ impl_IsPoint px py W)
 have KQ := hide (fun W => hq ▸ impl_IsPoint qx qy W)
 have KS := hide (fun W => impl_squareDistance px py qx qy s1 s2 s3 s4 W)
 generalize sq px py qx qy = d9 at *
 clear hp hq s1 s2 s3 s4
 go_enter Tryz.func11, Tryz.ntmps11
 go_wp2_with (first | (go_at_call 28; (with_reducible refine (KP.out _).mono ?_); rintro e w9 ⟨rfl, hb⟩; obtain ⟨hc, hf⟩ := bcell hb; have hz := hb.size; have z0 : w.heap.size < w9.heap.size := (by first | omega | (simp at hz; omega)); have z1 : w.heap.size + 1 < w9.heap.size := (by first | omega | (simp at hz; omega))) | (go_at_call 28; (with_reducible refine (KQ.out _).mono ?_); rintro e w9 ⟨rfl, hb⟩; obtain ⟨hc, hf⟩ := bcell hb; have hz := hb.size; have z0 : w.heap.size < w9.heap.size := (by first | omega | (simp at hz; omega)); have z1 : w.heap.size + 1 < w9.heap.size := (by first | omega | (simp at hz; omega))) | (go_at_call 19; (with_reducible refine (KS.out _).mono ?_); rintro e w9 ⟨rfl, hb⟩; obtain ⟨hc, hf⟩ := bcell hb; have hz := hb.size; have z0 : w.heap.size < w9.heap.size := (by first | omega | (simp at hz; omega)); have z1 : w.heap.size + 1 < w9.heap.size := (by first | omega | (simp at hz; omega))))
 go_ret2
 exact ⟨rfl, bwz⟩
/-- A leg that begins within the radius touches the zone. -/
theorem tou_of {x y z : Int} {U V : Nat → Int} {l : Nat} (h : sq (U l) (V l) x y ≤ z * z) : touI x y z U V l = true := by
 unfold touI wdB
 have hb := far_b (U l) (V l) (U (l + 1)) (V (l + 1)) x y
 have hl := lagrange (U l) (V l) (U (l + 1)) (V (l + 1)) x y
 have hf := mul_self_nonneg' (farI (U l) (V l) (U (l + 1)) (V (l + 1)) x y)
 have hs := sq_nonneg (U l) (V l) (U (l + 1)) (V (l + 1))
 split
 ·exact decide_eq_true h
 ·split
  ·exact decide_eq_true (by omega)
  ·have := Int.mul_le_mul_of_nonneg_right h hs
   exact decide_eq_true (by omega)
theorem lgsZ_has {x y z : Int} {U V : Nat → Int} {l k : Nat} (hl : l < k) (h : touI x y z U V l = true) : (l : Int) ∈ lgsZ x y z U V k := by
 induction k with
 | zero => omega
 | succ k ih =>
  rcases Nat.lt_or_ge l k with h1 | h1
  ·unfold lgsZ
   split
   ·exact List.mem_append_left _ (ih h1)
   ·exact ih h1
  ·obtain rfl : l = k := by omega
   rw [lgsZ_yes h]
   exact List.mem_append_right _ (by simp)
/-- The position at a fix's time is the fix. -/
theorem legF_at {n : Nat} {T U V : Nat → Int} (hv : isTr n T U V = true) (i : Nat) : ∀ k, k + 1 < n → i ≤ k → legF T (T i) k = i := by
 obtain ⟨_, _, hall⟩ := isTr_t hv
 have hmono : ∀ j d, j + d + 1 < n → T j < T (j + d + 1) := fun j d => by
  induction d with
  | zero => intro h; have := (hall (j + 1) (by omega)).2.2.2 (by omega); exact this
  | succ d ih => intro h; have a := ih (by omega); have b := (hall (j + d + 1 + 1) (by omega)).2.2.2 (by omega); simp at b; have : j + (d + 1) + 1 = j + d + 1 + 1 := by omega
                 rw [this]; omega
 intro k
 induction k with
 | zero => intro _ h; obtain rfl : i = 0 := by omega
           rfl
 | succ k ih =>
  intro h h1
  rcases Nat.lt_or_ge i (k + 1) with h2 | h2
  ·have h3 := hmono i (k - i) (by omega)
   rw [show i + (k - i) + 1 = k + 1 by omega] at h3
   show (if T i < T (k + 1) then legF T (T i) k else k + 1) = i
   rw [if_pos h3]
   exact ih (by omega) (by omega)
  ·obtain rfl : i = k + 1 := by omega
   exact legF_no (.inr (Int.le_refl _))
theorem posX_at {n : Nat} {T U V : Nat → Int} (hv : isTr n T U V = true) (X : Nat → Int) (i : Nat) (hi : i < n) : posX n T X (T i) = X i := by
 obtain ⟨hn2, _, hall⟩ := isTr_t hv
 unfold posX
 rcases Nat.lt_or_ge (i + 1) n with h | h
 ·rw [legF_at hv i (n - 2) (by omega) (by omega)]
  unfold posI
  rw [Int.sub_self, Int.mul_zero, Int.zero_ediv, Int.add_zero]
 ·obtain ⟨j, rfl⟩ : ∃ j, n = j + 2 := ⟨n - 2, by omega⟩
  obtain rfl : i = j + 1 := by omega
  have h1 := (hall (j + 1) hi).2.2.2 (by omega)
  simp at h1
  rw [show j + 2 - 2 = j by omega, legF_no (T := T) (t := T (j + 1)) (k := j) (.inr (by omega))]
  unfold posI
  rw [Int.mul_ediv_cancel _ (by omega)]
  omega
/-- A fix's time lies within its track's. -/
theorem tr_in {n i : Nat} {T U V : Nat → Int} (hv : isTr n T U V = true) (hi : i < n) : inB (T i) (T 0) (T (n - 1)) = true := by
 obtain ⟨_, _, hall⟩ := isTr_t hv
 have up : ∀ d j, j + d < n → T j ≤ T (j + d) := fun d => by
  induction d with
  | zero => intro j _; exact Int.le_refl _
  | succ d ih =>
   intro j h
   have a := ih j (by omega)
   have b := (hall (j + d + 1) h).2.2.2 (by omega)
   rw [Nat.add_sub_cancel] at b
   exact Int.le_trans a (Int.le_of_lt b)
 have a := up i 0 (by omega)
 have b := up (n - 1 - i) i (by omega)
 rw [Nat.zero_add] at a
 rw [show i + (n - 1 - i) = n - 1 by omega] at b
 exact decide_eq_true ⟨a, b⟩
end Go.Proofs.YtklbbopdmnopgaaGreatDoor
