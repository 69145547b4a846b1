/- Plain: the visits of a zone consist of all legs that touch it, and are separated by others. -/
import Derived.Test.YtgcdgdnmcdffoaaDoorTw
namespace Go.Proofs.YtgcdgdnmcdffoaaDoor
open Go.RowKit

/-- Visits j begins with the leg number s j of the list, and ends ahead of number s (j + 1). -/
def VisP (f : Nat → Int) (k : Nat) (s : Nat → Nat) : Prop :=
 s 0 = 0 ∧ s (vsN f k) = k ∧ (∀ j, j < vsN f k → vsA f k j ≤ vsB f k j ∧ vsB f k j - vsA f k j + 1 = ((s (j + 1) : Nat) : Int) - ((s j : Nat) : Int) ∧ s j < s (j + 1) ∧ s (j + 1) ≤ k ∧ (∀ i, s j ≤ i → i < s (j + 1) → f i = vsA f k j + ((i : Int) - ((s j : Nat) : Int))) ∧ (0 < j → vsB f k (j - 1) + 1 < vsA f k j))
theorem vis_all (f : Nat → Int) (K : Nat) (hf : ∀ i, i + 1 < K → f i < f (i + 1)) : ∀ k, k ≤ K → ∃ s, VisP f k s := fun k => by
 induction k with
 | zero => intro _; exact ⟨fun _ => 0, rfl, rfl, fun j hj => absurd hj (Nat.not_lt_zero _)⟩
 | succ k ih =>
  intro hk
  obtain ⟨s, h0, h1, h2⟩ := ih (by omega)
  by_cases hc : vsC f k = true
  ·have hc2 := hc
   simp only [vsC, Bool.and_eq_true, decide_eq_true_eq, beq_iff_eq] at hc2
   obtain ⟨hk0, hp⟩ := hc2
   have eN : vsN f (k + 1) = vsN f k := by rw [vsN, if_pos hc]
   have eA : vsA f (k + 1) = vsA f k := by rw [vsA, if_pos hc]
   have eB : vsB f (k + 1) = fun j => if j = vsN f k - 1 then f k else vsB f k j := by rw [vsB, if_pos hc]
   have hN := vsN_pos (f := f) hk0
   have hL := vsB_last (f := f) hk0
   refine ⟨fun j => if j = vsN f k then k + 1 else s j, by show (if 0 = vsN f k then k + 1 else s 0) = 0; rw [if_neg (by omega)]; exact h0, by rw [eN]; show (if vsN f k = vsN f k then k + 1 else _) = _; rw [if_pos rfl], fun j hj => ?_⟩
   rw [eN] at hj
   obtain ⟨a, b, c, c2, d, e⟩ := h2 j hj
   rw [eA, eB]
   have hsj : (if j = vsN f k then k + 1 else s j) = s j := if_neg (by omega)
   show _ ∧ _ = (((if j + 1 = vsN f k then k + 1 else s (j + 1) : Nat)) : Int) - (((if j = vsN f k then k + 1 else s j : Nat)) : Int) ∧ (if j = vsN f k then k + 1 else s j) < (if j + 1 = vsN f k then k + 1 else s (j + 1)) ∧ (if j + 1 = vsN f k then k + 1 else s (j + 1)) ≤ k + 1 ∧ _ ∧ _
   simp only [hsj]
   by_cases hj1 : j + 1 = vsN f k
   ·have e1 : j = vsN f k - 1 := by omega
    have e2 : s (j + 1) = k := by rw [hj1]; exact h1
    rw [if_pos e1, if_pos hj1]
    rw [e2] at b c d
    rw [← e1] at hL
    refine ⟨by omega, by push_cast; omega, by omega, Nat.le_refl _, fun i hi1 hi2 => ?_, fun h => ?_⟩
    ·rcases Nat.lt_or_ge i k with q | q
     ·exact d i hi1 q
     ·obtain rfl : i = k := by omega
      omega
    ·show (if j - 1 = vsN f k - 1 then f k else vsB f k (j - 1)) + 1 < _
     rw [if_neg (by omega)]
     exact e h
   ·rw [if_neg (show ¬ j = vsN f k - 1 by omega), if_neg hj1]
    refine ⟨a, b, c, by omega, fun i hi1 hi2 => ?_, fun h => ?_⟩
    ·exact d i hi1 hi2
    ·show (if j - 1 = vsN f k - 1 then f k else vsB f k (j - 1)) + 1 < _
     rw [if_neg (by omega)]
     exact e h
  ·have eN : vsN f (k + 1) = vsN f k + 1 := by rw [vsN, if_neg hc]
   have eA : vsA f (k + 1) = fun j => if j = vsN f k then f k else vsA f k j := by rw [vsA, if_neg hc]
   have eB : vsB f (k + 1) = fun j => if j = vsN f k then f k else vsB f k j := by rw [vsB, if_neg hc]
   refine ⟨fun j => if j = vsN f k + 1 then k + 1 else s j, by show (if 0 = vsN f k + 1 then k + 1 else s 0) = 0; rw [if_neg (by omega)]; exact h0, by rw [eN]; show (if vsN f k + 1 = vsN f k + 1 then k + 1 else _) = _; rw [if_pos rfl], fun j hj => ?_⟩
   rw [eN] at hj
   rw [eA, eB]
   have hsj : (if j = vsN f k + 1 then k + 1 else s j) = s j := if_neg (by omega)
   show (if j = vsN f k then f k else vsA f k j) ≤ (if j = vsN f k then f k else vsB f k j) ∧ (if j = vsN f k then f k else vsB f k j) - (if j = vsN f k then f k else vsA f k j) + 1 = (((if j + 1 = vsN f k + 1 then k + 1 else s (j + 1) : Nat)) : Int) - (((if j = vsN f k + 1 then k + 1 else s j : Nat)) : Int) ∧ (if j = vsN f k + 1 then k + 1 else s j) < (if j + 1 = vsN f k + 1 then k + 1 else s (j + 1)) ∧ (if j + 1 = vsN f k + 1 then k + 1 else s (j + 1)) ≤ k + 1 ∧ _ ∧ _
   simp only [hsj]
   by_cases hj1 : j = vsN f k
   ·have e2 : s j = k := by rw [hj1]; exact h1
    rw [if_pos hj1, if_pos hj1, if_pos (show j + 1 = vsN f k + 1 by omega), e2]
    refine ⟨Int.le_refl _, by push_cast; omega, by omega, Nat.le_refl _, fun i hi1 hi2 => ?_, fun h => ?_⟩
    ·obtain rfl : i = k := by omega
     omega
    ·show (if j - 1 = vsN f k then f k else vsB f k (j - 1)) + 1 < _
     rw [if_neg (by omega)]
     have hk0 : 0 < k := by
      rcases Nat.eq_zero_or_pos k with q | q
      ·subst q; rw [hj1] at h; exact absurd h (by show ¬ 0 < vsN f 0; exact Nat.not_lt_zero _)
      ·exact q
     have hL := vsB_last (f := f) hk0
     rw [← hj1] at hL
     rw [hL]
     have hlt := hf (k - 1) (by omega)
     rw [show k - 1 + 1 = k by omega] at hlt
     have hne : ¬ f (k - 1) = f k - 1 := fun q => hc (by simp only [vsC, Bool.and_eq_true, decide_eq_true_eq, beq_iff_eq]; exact ⟨hk0, q⟩)
     omega
   ·obtain ⟨a, b, c, c2, d, e⟩ := h2 j (by omega)
    rw [if_neg hj1, if_neg hj1, if_neg (show ¬ j + 1 = vsN f k + 1 by omega)]
    refine ⟨a, b, c, by omega, fun i hi1 hi2 => ?_, fun h => ?_⟩
    ·exact d i hi1 hi2
    ·show (if j - 1 = vsN f k then f k else vsB f k (j - 1)) + 1 < _
     rw [if_neg (by omega)]
     exact e h
theorem gtI_mem {L : List Int} {i : Nat} (h : i < L.length) : gtI L i ∈ L := by
 unfold gtI
 rw [List.getElem?_eq_getElem h]
 exact List.getElem_mem h
/-- The legs that touch a zone come in order. -/
theorem lgsZ_up (x y z : Int) (U V : Nat → Int) : ∀ k i, i + 1 < (lgsZ x y z U V k).length → gtI (lgsZ x y z U V k) i < gtI (lgsZ x y z U V k) (i + 1) := by
 intro k
 induction k with
 | zero => intro i h; exact absurd h (by simp [lgsZ])
 | succ k ih =>
  intro i h
  by_cases ht : touI x y z U V k = true
  ·rw [lgsZ_yes ht] at h ⊢
   rw [List.length_append, List.length_singleton] at h
   rcases Nat.lt_or_ge (i + 1) (lgsZ x y z U V k).length with h1 | h1
   ·have := ih i h1
    unfold gtI at this ⊢
    rwa [List.getElem?_append_left (by omega), List.getElem?_append_left h1]
   ·obtain ⟨q, hq, hqk⟩ := lgsZ_at (x := x) (y := y) (z := z) (U := U) (V := V) (k := k) (i := i) (by omega)
    unfold gtI
    rw [List.getElem?_append_left (by omega), hq, List.getElem?_append_right (by omega), show i + 1 - (lgsZ x y z U V k).length = 0 by omega]
    show (q : Int) < (k : Int)
    omega
  ·rw [lgsZ_no (by simpa using ht)] at h ⊢
   exact ih i h
/-- The visits among the legs that touch a zone. -/
theorem vis_legs (x y z : Int) (U V : Nat → Int) (k : Nat) : ∀ L, L = lgsZ x y z U V k → ∃ s : Nat → Nat, s 0 = 0 ∧ s (vsN (gtI L) L.length) = L.length ∧ ∀ j, j < vsN (gtI L) L.length →
 0 ≤ vsA (gtI L) L.length j ∧ vsA (gtI L) L.length j ≤ vsB (gtI L) L.length j ∧ vsB (gtI L) L.length j < (k : Int) ∧ vsB (gtI L) L.length j - vsA (gtI L) L.length j + 1 = ((s (j + 1) : Nat) : Int) - ((s j : Nat) : Int) ∧ s j < s (j + 1) ∧ s (j + 1) ≤ L.length ∧
 (∀ d, s j + d < s (j + 1) → vsA (gtI L) L.length j + (d : Int) ∈ L) ∧ (0 < j → vsB (gtI L) L.length (j - 1) + 1 < vsA (gtI L) L.length j) := by
 intro L hL
 obtain ⟨s, h0, h1, h2⟩ := vis_all (gtI L) L.length (by rw [hL]; exact lgsZ_up x y z U V k) L.length (Nat.le_refl _)
 refine ⟨s, h0, h1, fun j hj => ?_⟩
 obtain ⟨a, b, c, d, e, f⟩ := h2 j hj
 have hm : ∀ q, q < L.length → ∃ r : Nat, gtI L q = (r : Int) ∧ r < k := fun q hq => by
  have := gtI_mem hq
  rw [hL] at this ⊢
  exact lgsZ_mem x y z U V k _ this
 have e1 := e (s j) (Nat.le_refl _) c
 have e2 := e (s (j + 1) - 1) (by omega) (by omega)
 obtain ⟨r1, f1, g1⟩ := hm (s j) (by omega)
 obtain ⟨r2, f2, g2⟩ := hm (s (j + 1) - 1) (by omega)
 refine ⟨by omega, a, by omega, b, c, d, fun q hq => ?_, f⟩
 have e3 := e (s j + q) (by omega) hq
 have := gtI_mem (L := L) (i := s j + q) (by omega)
 rw [e3] at this
 rwa [show (((s j + q : Nat) : Nat) : Int) - ((s j : Nat) : Int) = (q : Int) by omega] at this
end Go.Proofs.YtgcdgdnmcdffoaaDoor
