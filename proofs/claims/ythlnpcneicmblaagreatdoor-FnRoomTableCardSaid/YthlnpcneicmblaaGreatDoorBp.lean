/- The hull at a time: when it is there, and its code. -/
import Derived.Test.YthlnpcneicmblaaGreatDoorTl
import Derived.Test.YthlnpcneicmblaaGreatDoorMp
import Derived.Test.YthlnpcneicmblaaGreatDoorTe
import Derived.Test.YthlnpcneicmblaaGreatDoorTd
namespace Go.Proofs.YthlnpcneicmblaaGreatDoor

/-- The hull at a time is there; its code. -/
def huOk (n : Nat) (T X Y : Nat → Int) (t len : Int) : Bool := isTr n T X Y && (inB len 1 1000 && (inB t (T 0) (T (n - 1)) && !(wayX n T X t == 0 && wayX n T Y t == 0)))
def huC (n : Nat) (T X Y : Nat → Int) (t len : Int) : Int := sel (isTr n T X Y) (sel (inB len 1 1000) (sel (inB t (T 0) (T (n - 1))) (sel (wayX n T X t == 0 && wayX n T Y t == 0) 5 0) 2) 2) 1
end Go.Proofs.YthlnpcneicmblaaGreatDoor
/- Plain: whether a boat is turning at a time. -/
namespace Go.Proofs.YthlnpcneicmblaaGreatDoor
open Go.RowKit

/-- One of the first k manoeuvres is within the span. -/
def turB (T : Nat → Int) (t sp : Int) (L : List (Int × Int)) : Nat → Bool
 | 0 => false
 | k + 1 => turB T t sp L k || inB (T (LX L k).toNat - t) (-sp) sp
theorem turB_yes {T : Nat → Int} {t sp : Int} {L : List (Int × Int)} {k j : Nat} (hk : k < L.length) (hj : LX L k = (j : Int)) (h : inB (T j - t) (-sp) sp = true) : turB T t sp L L.length = true := by
 have h1 : turB T t sp L (k + 1) = true := by rw [turB, hj, Int.toNat_natCast, h, Bool.or_true]
 have h2 : ∀ m, turB T t sp L (k + 1 + m) = true := fun m => by
  induction m with
  | zero => exact h1
  | succ m ih => rw [← Nat.add_assoc, turB, ih, Bool.true_or]
 have := h2 (L.length - (k + 1))
 rwa [show k + 1 + (L.length - (k + 1)) = L.length by omega] at this
theorem turB_no {T : Nat → Int} {t sp : Int} {L : List (Int × Int)} {k j : Nat} (hj : LX L k = (j : Int)) (h0 : turB T t sp L k = false) (h : inB (T j - t) (-sp) sp = false) : turB T t sp L (k + 1) = false := by
 rw [turB, hj, Int.toNat_natCast, h, h0]; rfl
def tuB (wx wy : Int) (n : Nat) (T X Y : Nat → Int) (t sp : Int) : Bool :=
 selB (isWd wx wy && (isTr n T X Y && (inB t (T 0) (T (n - 1)) && inB sp 0 60000))) (turB T t sp (mans wx wy X Y (n - 2)) (mans wx wy X Y (n - 2)).length) false
def tuC (wx wy : Int) (n : Nat) (T X Y : Nat → Int) (t sp : Int) : Int := sel (isWd wx wy) (sel (isTr n T X Y) (sel (inB t (T 0) (T (n - 1))) (sel (inB sp 0 60000) 0 2) 2) 1) 1
theorem abs_inB (d sp : Int) : decide (absI d ≤ sp) = inB d (-sp) sp := by
 unfold inB absI
 rw [decide_eq_decide]
 first | omega | (split <;> omega)
end Go.Proofs.YthlnpcneicmblaaGreatDoor
/- Plain: the position at a time is a point; the hull at a time is a hull; the boat at a time. -/
namespace Go.Proofs.YthlnpcneicmblaaGreatDoor
open Go.RowKit

theorem legF_to {T : Nat → Int} {t : Int} {k : Nat} (h : t ≤ T (k + 1)) : t ≤ T (legF T t k + 1) := by
 induction k with
 | zero => exact h
 | succ k ih =>
  unfold legF
  split
  ·exact ih (by omega)
  ·exact h
theorem posI_bd {a b g m : Int} (h1 : -1000000 ≤ a) (h2 : a ≤ 1000000) (h3 : -1000000 ≤ b) (h4 : b ≤ 1000000) (g0 : 0 ≤ g) (g1 : g ≤ m) (m0 : 0 < m) : -1000000 ≤ posI a b g m ∧ posI a b g m ≤ 1000000 := by
 unfold posI
 rcases Int.le_total a b with h | h
 ·have k1 : 0 ≤ (b - a) * g := Int.mul_nonneg (by omega) g0
  have k2 : (b - a) * g ≤ (b - a) * m := Int.mul_le_mul_of_nonneg_left g1 (by omega)
  have k3 : 0 ≤ (b - a) * g / m := Int.ediv_nonneg k1 (by omega)
  have k4 : (b - a) * g / m ≤ b - a := by
   have := Int.ediv_le_ediv m0 k2
   rwa [Int.mul_ediv_cancel _ (by omega)] at this
  omega
 ·have k1 : (a - b) * g ≤ (a - b) * m := Int.mul_le_mul_of_nonneg_left g1 (by omega)
  have k2 : 0 ≤ (a - b) * g := Int.mul_nonneg (by omega) g0
  have e : (b - a) * g = -((a - b) * g) := by grind
  have k3 : (b - a) * g / m ≤ 0 := by
   have := Int.ediv_le_ediv m0 (show (b - a) * g ≤ 0 by omega)
   rwa [Int.zero_ediv] at this
  have k4 : b - a ≤ (b - a) * g / m := by
   have k5 : (b - a) * m ≤ (b - a) * g := by have e2 : (b - a) * m = -((a - b) * m) := by grind
                                             omega
   have := Int.ediv_le_ediv m0 k5
   rwa [Int.mul_ediv_cancel _ (by omega)] at this
  omega
theorem posX_pt {n : Nat} {T X Y : Nat → Int} {t : Int} (hv : isTr n T X Y = true) (ht : inB t (T 0) (T (n - 1)) = true) : isPt (posX n T X t) (posX n T Y t) = true := by
 obtain ⟨hn2, _, _⟩ := isTr_t hv
 obtain ⟨u1, u2⟩ := inB_t ht
 have hl1 := legF_lt T t hn2
 obtain ⟨t0, t1, t2, p0, p1⟩ := isTr_leg hv hl1
 obtain ⟨x1, x2, x3, x4⟩ := isPt_t p0
 obtain ⟨y1, y2, y3, y4⟩ := isPt_t p1
 have a := legF_from (t := t) u1 (n - 2)
 have b := legF_to (T := T) (t := t) (k := n - 2) (by rwa [show n - 2 + 1 = n - 1 by omega])
 have c := posI_bd x1 x2 y1 y2 (g := t - T (legF T t (n - 2))) (m := T (legF T t (n - 2) + 1) - T (legF T t (n - 2))) (by omega) (by omega) (by omega)
 have d := posI_bd x3 x4 y3 y4 (g := t - T (legF T t (n - 2))) (m := T (legF T t (n - 2) + 1) - T (legF T t (n - 2))) (by omega) (by omega) (by omega)
 unfold isPt inB posX
 rw [decide_eq_true c, decide_eq_true d]
 rfl
theorem huC_cases (n : Nat) (T X Y : Nat → Int) (t len : Int) : (¬ huC n T X Y t len = 0 ∧ huOk n T X Y t len = false) ∨ (huC n T X Y t len = 0 ∧ huOk n T X Y t len = true) := by
 unfold huC huOk
 rcases b5 (isTr n T X Y) (inB len 1 1000) (inB t (T 0) (T (n - 1))) (wayX n T X t == 0 && wayX n T Y t == 0) with g1 | ⟨g1, g2⟩ | ⟨g1, g2, g3⟩ | ⟨g1, g2, g3, g4⟩ | ⟨g1, g2, g3, g4⟩
 ·left; rw [g1]; exact ⟨by simp [sel], rfl⟩
 ·left; rw [g1, g2]; exact ⟨by simp [sel], rfl⟩
 ·left; rw [g1, g2, g3]; exact ⟨by simp [sel], rfl⟩
 ·right; rw [g1, g2, g3, g4]; exact ⟨by simp [sel], rfl⟩
 ·left; rw [g1, g2, g3, g4]; exact ⟨by simp [sel], rfl⟩
theorem hu_hull {n : Nat} {T X Y : Nat → Int} {t len : Int} (h : huOk n T X Y t len = true) : isHu (posX n T X t) (posX n T Y t) (wayX n T X t) (wayX n T Y t) len = true := by
 unfold huOk at h
 simp only [Bool.and_eq_true, Bool.not_eq_true'] at h
 obtain ⟨g1, g2, g3, g4⟩ := h
 unfold isHu
 rw [posX_pt g1 g3, head_ok g1 g4, g2]
 rfl
theorem tuC_wind {wx wy : Int} {n : Nat} {T X Y : Nat → Int} {t sp : Int} (h : tuC wx wy n T X Y t sp = 0) : isWd wx wy = true := by
 rcases b2 (isWd wx wy) with g | g
 ·rw [tuC, g] at h; exact absurd h (by simp [sel])
 ·exact g
/-- The boat at a time is there; its code. -/
def boOk (wx wy : Int) (n : Nat) (T X Y : Nat → Int) (t len sp : Int) : Bool := tuC wx wy n T X Y t sp == 0 && huC n T X Y t len == 0
def boC (wx wy : Int) (n : Nat) (T X Y : Nat → Int) (t len sp : Int) : Int := if tuC wx wy n T X Y t sp = 0 then huC n T X Y t len else tuC wx wy n T X Y t sp
def boB (wx wy : Int) (n : Nat) (T X Y : Nat → Int) (t len sp : Int) : Bool := selB (boOk wx wy n T X Y t len sp) (tuB wx wy n T X Y t sp) false
theorem bo_cases (wx wy : Int) (n : Nat) (T X Y : Nat → Int) (t len sp : Int) :
 (¬ tuC wx wy n T X Y t sp = 0 ∧ boOk wx wy n T X Y t len sp = false ∧ boC wx wy n T X Y t len sp = tuC wx wy n T X Y t sp) ∨
 (tuC wx wy n T X Y t sp = 0 ∧ ¬ huC n T X Y t len = 0 ∧ boOk wx wy n T X Y t len sp = false ∧ boC wx wy n T X Y t len sp = huC n T X Y t len) ∨
 (tuC wx wy n T X Y t sp = 0 ∧ huC n T X Y t len = 0 ∧ boOk wx wy n T X Y t len sp = true ∧ boC wx wy n T X Y t len sp = 0) := by
 unfold boOk boC
 by_cases h : tuC wx wy n T X Y t sp = 0
 ·by_cases k : huC n T X Y t len = 0
  ·right; right; exact ⟨h, k, by rw [h, k]; rfl, by rw [if_pos h, k]⟩
  ·right; left; exact ⟨h, k, by rw [h, beq_eq_false_iff_ne.2 k]; rfl, by rw [if_pos h]⟩
 ·left; exact ⟨h, by rw [beq_eq_false_iff_ne.2 h]; rfl, by rw [if_neg h]⟩
theorem bo_hull {wx wy : Int} {n : Nat} {T X Y : Nat → Int} {t len sp : Int} (h : boOk wx wy n T X Y t len sp = true) : isWd wx wy = true ∧ isHu (posX n T X t) (posX n T Y t) (wayX n T X t) (wayX n T Y t) len = true := by
 unfold boOk at h
 simp only [Bool.and_eq_true, beq_iff_eq] at h
 refine ⟨tuC_wind h.1, hu_hull ?_⟩
 rcases huC_cases n T X Y t len with k | k
 ·exact absurd h.2 k.1
 ·exact k.2
end Go.Proofs.YthlnpcneicmblaaGreatDoor
