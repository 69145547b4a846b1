/- Plain: the order of boats holds each of them once, in the order of the stations that they have reached. -/
import Derived.Test.YtcmjcedlbhdihaaGreatDoorSo
namespace Go.Proofs.YtcmjcedlbhdihaaGreatDoor
theorem srtF_has (lt : Nat → Nat → Bool) : ∀ m i, i < m → ∃ k, k < m ∧ srtF lt m k = i := fun m => by
 induction m with
 | zero => intro i h; omega
 | succ n ih =>
  intro i hi
  have hp := posF_le lt (srtF lt n) n n
  rcases Nat.lt_or_ge i n with h | h
  ·obtain ⟨k, hk, e⟩ := ih i h
   rcases Nat.lt_or_ge k (posF lt (srtF lt n) n n) with h1 | h1
   ·refine ⟨k, by omega, ?_⟩
    show insF (srtF lt n) (posF lt (srtF lt n) n n) n k = i
    unfold insF
    rw [if_pos h1, e]
   ·refine ⟨k + 1, by omega, ?_⟩
    show insF (srtF lt n) (posF lt (srtF lt n) n n) n (k + 1) = i
    unfold insF
    rw [if_neg (by omega), if_neg (by omega), Nat.add_sub_cancel]
    exact e
  ·obtain rfl : i = n := by omega
   refine ⟨posF lt (srtF lt i) i i, by omega, ?_⟩
   show insF (srtF lt i) (posF lt (srtF lt i) i i) i (posF lt (srtF lt i) i i) = i
   unfold insF
   rw [if_neg (Nat.lt_irrefl _), if_pos rfl]
theorem posF_in (lt : Nat → Nat → Bool) (S : Nat → Nat) (x : Nat) : ∀ j, (∀ q, posF lt S x j ≤ q → q < j → lt x (S q) = true) ∧ (0 < posF lt S x j → lt x (S (posF lt S x j - 1)) = false) := fun j => by
 induction j with
 | zero => exact ⟨fun q _ h => absurd h (Nat.not_lt_zero _), fun h => absurd h (Nat.not_lt_zero _)⟩
 | succ j ih =>
  unfold posF
  by_cases hl : lt x (S j) = true
  ·rw [if_pos hl]
   refine ⟨fun q h1 h2 => ?_, ih.2⟩
   rcases Nat.lt_or_ge q j with h | h
   ·exact ih.1 q h1 h
   ·obtain rfl : q = j := by omega
    exact hl
  ·rw [if_neg hl]
   refine ⟨fun q h1 h2 => by omega, fun _ => ?_⟩
   rw [Nat.add_sub_cancel]
   simpa using hl
theorem ahB_t {M T : Nat → Int} {a b : Nat} (h : ahB M T a b = true) : M b ≤ M a := by
 have h1 : ahI M T a b < 0 := of_decide_eq_true h
 unfold ahI at h1
 split at h1 <;> omega
theorem ahB_f {M T : Nat → Int} {a b : Nat} (h : ahB M T a b = false) : M a ≤ M b := by
 have h1 : ¬ ahI M T a b < 0 := of_decide_eq_false h
 unfold ahI at h1
 split at h1 <;> omega
/-- No boat comes behind one that has reached fewer stations. -/
theorem srtF_ord (M T : Nat → Int) : ∀ m k, k + 1 < m → M (srtF (ahB M T) m (k + 1)) ≤ M (srtF (ahB M T) m k) := fun m => by
 induction m with
 | zero => intro k h; omega
 | succ n ih =>
  intro k hk
  have hp := posF_le (ahB M T) (srtF (ahB M T) n) n n
  obtain ⟨h1, h2⟩ := posF_in (ahB M T) (srtF (ahB M T) n) n n
  show M (insF (srtF (ahB M T) n) (posF (ahB M T) (srtF (ahB M T) n) n n) n (k + 1)) ≤ M (insF (srtF (ahB M T) n) (posF (ahB M T) (srtF (ahB M T) n) n n) n k)
  generalize posF (ahB M T) (srtF (ahB M T) n) n n = p at *
  unfold insF
  rcases (by omega : k + 1 < p ∨ k + 1 = p ∨ k = p ∨ p < k) with h | h | h | h
  ·rw [if_pos h, if_pos (show k < p by omega)]
   exact ih k (by omega)
  ·rw [if_neg (by omega), if_pos h, if_pos (show k < p by omega)]
   have := h2 (by omega)
   rw [show p - 1 = k by omega] at this
   exact ahB_f this
  ·rw [if_neg (by omega), if_neg (by omega), if_neg (show ¬ k < p by omega), if_pos h, Nat.add_sub_cancel]
   exact ahB_t (h1 k (by omega) (by omega))
  ·rw [if_neg (by omega), if_neg (by omega), if_neg (show ¬ k < p by omega), if_neg (by omega), Nat.add_sub_cancel]
   have := ih (k - 1) (by omega)
   rwa [show k - 1 + 1 = k by omega] at this
end Go.Proofs.YtcmjcedlbhdihaaGreatDoor
