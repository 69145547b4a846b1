/- Plain laws on tracks: no program in sight. -/
import Derived.Test.YtlllfklehbjneaaDoorBase
namespace Go.Proofs.YtlllfklehbjneaaDoor
open Go.RowKit

/-- The last leg, of the legs from 0 to k, that begins at or before a time. -/
def legF (T : Nat → Int) (t : Int) : Nat → Nat
  | 0 => 0
  | k + 1 => if t < T (k + 1) then legF T t k else k + 1
theorem legF_le (T : Nat → Int) (t : Int) (k : Nat) : legF T t k ≤ k := by
  induction k with
  | zero => exact Nat.le_refl _
  | succ k ih => unfold legF; split <;> omega
theorem legF_yes {T : Nat → Int} {t : Int} {k : Nat} (h0 : 0 < k) (h : t < T k) : legF T t k = legF T t (k - 1) := by
  obtain ⟨j, rfl⟩ : ∃ j, k = j + 1 := ⟨k - 1, by omega⟩
  show (if t < T (j + 1) then legF T t j else j + 1) = _
  rw [if_pos h]; rfl
theorem legF_no {T : Nat → Int} {t : Int} {k : Nat} (h : k = 0 ∨ T k ≤ t) : legF T t k = k := by
  match k, h with
  | 0, _ => rfl
  | j + 1, h =>
    show (if t < T (j + 1) then legF T t j else j + 1) = _
    rw [if_neg (by omega)]
theorem legF_from {T : Nat → Int} {t : Int} (h : T 0 ≤ t) (k : Nat) : T (legF T t k) ≤ t := by
  induction k with
  | zero => exact h
  | succ k ih => unfold legF; split <;> first | exact ih | omega
/-- A fix is good: its time, its point, later than the one ahead of it. -/
def fixOk (T X Y : Nat → Int) (i : Nat) : Bool := inB (T i) 0 1000000000 && isPt (X i) (Y i) && !(decide (0 < i) && decide (T i ≤ T (i - 1)))
def fixesOk (T X Y : Nat → Int) : Nat → Bool
  | 0 => true
  | k + 1 => fixesOk T X Y k && fixOk T X Y k
/-- A valid track. -/
def isTr (n : Nat) (T X Y : Nat → Int) : Bool := fixesOk T X Y n && inB n 2 40
theorem fixesOk_t {T X Y : Nat → Int} {n : Nat} (h : fixesOk T X Y n = true) : ∀ i, i < n → fixOk T X Y i = true := by
  induction n with
  | zero => intro i hi; omega
  | succ n ih =>
    intro i hi
    simp only [fixesOk, Bool.and_eq_true] at h
    by_cases e : i = n
    · subst e; exact h.2
    · exact ih h.1 i (by omega)
theorem fixesOk_f {T X Y : Nat → Int} {n i : Nat} (h : i < n) (hi : fixOk T X Y i = false) : fixesOk T X Y n = false := by
  rcases b2 (fixesOk T X Y n) with k | k
  · exact k
  · exact absurd (fixesOk_t k i h) (by rw [hi]; decide)
theorem fixOk_t {T X Y : Nat → Int} {i : Nat} (h : fixOk T X Y i = true) : 0 ≤ T i ∧ T i ≤ 1000000000 ∧ isPt (X i) (Y i) = true ∧ (0 < i → T (i - 1) < T i) := by
  simp only [fixOk, Bool.and_eq_true] at h
  obtain ⟨⟨h1, h2⟩, h3⟩ := h
  have := inB_t h1
  refine ⟨this.1, this.2, h2, fun h0 => ?_⟩
  simp [h0] at h3
  exact h3
theorem isTr_t {n : Nat} {T X Y : Nat → Int} (h : isTr n T X Y = true) : 2 ≤ n ∧ n ≤ 40 ∧ ∀ i, i < n → 0 ≤ T i ∧ T i ≤ 1000000000 ∧ isPt (X i) (Y i) = true ∧ (0 < i → T (i - 1) < T i) := by
  simp only [isTr, Bool.and_eq_true] at h
  have := inB_t h.2
  exact ⟨by omega, by omega, fun i hi => fixOk_t (fixesOk_t h.1 i hi)⟩
theorem isTr_leg {n l : Nat} {T X Y : Nat → Int} (h : isTr n T X Y = true) (hl : l + 1 < n) :
    0 ≤ T l ∧ T l < T (l + 1) ∧ T (l + 1) ≤ 1000000000 ∧ isPt (X l) (Y l) = true ∧ isPt (X (l + 1)) (Y (l + 1)) = true := by
  obtain ⟨_, _, k⟩ := isTr_t h
  have a := k l (by omega)
  have b := k (l + 1) hl
  have := b.2.2.2 (by omega)
  exact ⟨a.1, this, b.2.1, a.2.2.1, b.2.2.1⟩
/-- A coordinate on a leg at a time, rounded down. -/
def posI (a b gone all : Int) : Int := a + (b - a) * gone / all
/-- The split of the reference: the difference in thousands and the rest. -/
theorem posI_split (a b g m : Int) (hm : 0 < m) :
    posI a b g m = a + 1000 * ((b - a) / 1000 * g / m) + (1000 * ((b - a) / 1000 * g - (b - a) / 1000 * g / m * m) + (b - a - 1000 * ((b - a) / 1000)) * g) / m := by
  unfold posI
  have e : (b - a) * g = 1000 * ((b - a) / 1000 * g - (b - a) / 1000 * g / m * m) + (b - a - 1000 * ((b - a) / 1000)) * g + (1000 * ((b - a) / 1000 * g / m)) * m := by grind
  rw [e, Int.add_mul_ediv_right _ _ (by omega)]
  omega
end Go.Proofs.YtlllfklehbjneaaDoor
