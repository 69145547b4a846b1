/- Plain: the boat that is first in a zone. -/
import Derived.Test.YtgcdgdnmcdffoaaDoorTo
namespace Go.Proofs.YtgcdgdnmcdffoaaDoor
/-- The legs of a track that touch a zone, and when the first of them begins. -/
theorem hd_cases {x y z : Int} {n : Nat} {T U V : Nat → Int} (hv : isTr n T U V = true) : (lgsZ x y z U V (n - 1) = [] ∧ cmI x y z n T U V = -1) ∨ ∃ p : Nat, p + 1 < n ∧ (0 < (lgsZ x y z U V (n - 1)).length) ∧ (lgsZ x y z U V (n - 1))[0]?.getD 0 = (p : Int) ∧ cmI x y z n T U V = T p ∧ 0 ≤ T p := by
 unfold cmI
 rcases hL : lgsZ x y z U V (n - 1) with _ | ⟨p, tl⟩
 ·exact .inl ⟨rfl, rfl⟩
 ·obtain ⟨j, rfl, hj⟩ := lgsZ_mem x y z U V (n - 1) p (by rw [hL]; exact List.mem_cons_self)
  obtain ⟨t0, t1, t2, _⟩ := isTr_leg (l := j) hv (by omega)
  refine .inr ⟨j, by omega, Nat.succ_pos _, rfl, ?_, by omega⟩
  show T (Int.toNat j) = T j
  rw [Int.toNat_natCast]
theorem ftP_first (x y z : Int) (nn : Nat → Nat) (T U V : Nat → Nat → Int) : ∀ m, ((ftP x y z nn T U V m).1 < 0 ∧ ∀ i, i < m → cmI x y z (nn i) (T i) (U i) (V i) < 0) ∨
 ∃ b : Nat, b < m ∧ (ftP x y z nn T U V m).1 = (b : Int) ∧ (ftP x y z nn T U V m).2 = cmI x y z (nn b) (T b) (U b) (V b) ∧ 0 ≤ cmI x y z (nn b) (T b) (U b) (V b) ∧ ∀ i, i < m → cmI x y z (nn i) (T i) (U i) (V i) < 0 ∨ cmI x y z (nn b) (T b) (U b) (V b) ≤ cmI x y z (nn i) (T i) (U i) (V i) := fun m => by
 induction m with
 | zero => exact .inl ⟨by show (-1 : Int) < 0; omega, fun i h => absurd h (Nat.not_lt_zero _)⟩
 | succ m ih =>
  rw [ftP]
  by_cases hc : 0 ≤ cmI x y z (nn m) (T m) (U m) (V m) ∧ ((ftP x y z nn T U V m).1 < 0 ∨ cmI x y z (nn m) (T m) (U m) (V m) < (ftP x y z nn T U V m).2)
  ·rw [if_pos hc]
   refine .inr ⟨m, by omega, rfl, rfl, hc.1, fun i hi => ?_⟩
   rcases Nat.lt_or_ge i m with h | h
   ·rcases ih with ⟨h1, h2⟩ | ⟨b, b1, b2, b3, b4, b5⟩
    ·exact .inl (h2 i h)
    ·rcases b5 i h with h3 | h3
     ·exact .inl h3
     ·right
      rcases hc.2 with h4 | h4
      ·omega
      ·rw [b3] at h4; omega
   ·obtain rfl : i = m := by omega
    exact .inr (Int.le_refl _)
  ·rw [if_neg hc]
   rcases ih with ⟨h1, h2⟩ | ⟨b, b1, b2, b3, b4, b5⟩
   ·refine .inl ⟨h1, fun i hi => ?_⟩
    rcases Nat.lt_or_ge i m with h | h
    ·exact h2 i h
    ·obtain rfl : i = m := by omega
     rcases Int.lt_or_le (cmI x y z (nn i) (T i) (U i) (V i)) 0 with h3 | h3
     ·exact h3
     ·exact absurd ⟨h3, .inl h1⟩ hc
   ·refine .inr ⟨b, by omega, b2, b3, b4, fun i hi => ?_⟩
    rcases Nat.lt_or_ge i m with h | h
    ·exact b5 i h
    ·obtain rfl : i = m := by omega
     rcases Int.lt_or_le (cmI x y z (nn i) (T i) (U i) (V i)) 0 with h3 | h3
     ·exact .inl h3
     ·right
      rcases Int.lt_or_le (cmI x y z (nn i) (T i) (U i) (V i)) (cmI x y z (nn b) (T b) (U b) (V b)) with h4 | h4
      ·exact absurd ⟨h3, .inr (by rw [b3]; exact h4)⟩ hc
      ·exact h4
/-- What is answered with code 0. -/
theorem ftR_zero {co al : Bool} {n m : Nat} {k b : Int} (h : (ftR co al n m k b).2 = 0) : ¬ 16 < m ∧ zoC co al n k = 0 ∧ 0 ≤ b ∧ (ftR co al n m k b).1 = b := by
 by_cases h16 : 16 < m
 ·rw [ftR_big h16] at h; exact absurd h (by decide)
 ·by_cases z : zoC co al n k = 0
  ·by_cases hb : b < 0
   ·rw [ftR_none h16 z hb] at h; exact absurd h (by decide)
   ·exact ⟨h16, z, by omega, by rw [ftR_yes h16 z hb]⟩
  ·rw [ftR_no h16 z] at h; exact absurd h z
end Go.Proofs.YtgcdgdnmcdffoaaDoor
