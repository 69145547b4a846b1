/- Plain: the way across a line, the place and the time of a crossing, the times at which lines are crossed one after the other. No program in sight. -/
import Derived.Test.YtgcdgdnmcdffoaaGreatDoorGd
import Derived.LoopTactic
import Derived.Deep.DeepCutAuto
import Derived.Test.YtgcdgdnmcdffoaaGreatDoorKp
import Derived.Test.YtgcdgdnmcdffoaaGreatDoorCo
namespace Go.Proofs.YtgcdgdnmcdffoaaGreatDoor
open Go.RowKit

/-- The way in which the way from p to q crosses the line a b. -/
def wayI (ax ay bx bY px py qx qy : Int) : Int :=
 if (decide (0 < crs ax ay bx bY px py) == decide (0 < crs ax ay bx bY qx qy)) || decide (0 < sgn (crs px py qx qy ax ay) * sgn (crs px py qx qy bx bY)) then 0
 else if 0 < crs ax ay bx bY qx qy then 1 else -1
theorem wayI_cases (ax ay bx bY px py qx qy : Int) : wayI ax ay bx bY px py qx qy = 0 ∨ (wayI ax ay bx bY px py qx qy = 1 ∧ crs ax ay bx bY px py ≤ 0 ∧ 0 < crs ax ay bx bY qx qy) ∨ (wayI ax ay bx bY px py qx qy = -1 ∧ 0 < crs ax ay bx bY px py ∧ crs ax ay bx bY qx qy ≤ 0) := by
 unfold wayI
 split
 ·exact .inl rfl
 ·rename_i h
  simp only [Bool.or_eq_true, beq_iff_eq, decide_eq_true_eq, not_or, decide_eq_decide] at h
  split
  ·exact .inr (.inl ⟨rfl, by omega, by assumption⟩)
  ·exact .inr (.inr ⟨rfl, by omega, by omega⟩)
/-- The place of a crossing, by the two areas: numerator and denominator. -/
def cpN (a b : Int) : Int := absI a / gdI (absI a) (absI a + absI b)
def cpD (a b : Int) : Int := (absI a + absI b) / gdI (absI a) (absI a + absI b)
theorem absI_nn (a : Int) : 0 ≤ absI a := by unfold absI; split <;> omega
theorem cp_facts {a b : Int} (h : 1 ≤ absI a + absI b) : 0 ≤ cpN a b ∧ cpN a b ≤ cpD a b ∧ 1 ≤ cpD a b ∧ cpD a b ≤ absI a + absI b :=
 pl_facts (absI_nn a) (by have := absI_nn b; omega) h
/-- The time that has gone at a place of a leg, rounded up. -/
def goneI (d g m : Int) : Int := if 0 < d * g % m then d * g / m + 1 else d * g / m
theorem gone_bd {d g m : Int} (hd : 0 ≤ d) (hg : 0 ≤ g) (hgm : g ≤ m) (hm : 1 ≤ m) : 0 ≤ d * g / m ∧ d * g / m ≤ d ∧ 0 ≤ goneI d g m ∧ goneI d g m ≤ d := by
 have h0 : 0 ≤ d * g := Int.mul_nonneg hd hg
 have h1 : d * g ≤ d * m := Int.mul_le_mul_of_nonneg_left hgm hd
 have h2 : 0 ≤ d * g / m := Int.ediv_nonneg h0 (by omega)
 have h3 : d * g / m ≤ d := by have := Int.ediv_le_ediv (show 0 < m by omega) h1; rwa [Int.mul_ediv_cancel _ (by omega)] at this
 refine ⟨h2, h3, ?_, ?_⟩
 ·unfold goneI; split <;> omega
 ·unfold goneI
  split
  ·rename_i hr
   have e := Int.emod_add_mul_ediv (d * g) m
   rcases Int.lt_or_le (d * g / m) d with h4 | h4
   ·omega
   ·have h5 : d * g / m = d := by omega
    rw [h5, Int.mul_comm m d] at e
    omega
  ·exact h3
/-- The way across a line of leg k. -/
def wyL (ax ay bx bY : Int) (U V : Nat → Int) (k : Nat) : Int := wayI ax ay bx bY (U k) (V k) (U (k + 1)) (V (k + 1))
/-- The crossing of leg k: its place, its time. -/
def cxN (ax ay bx bY : Int) (U V : Nat → Int) (k : Nat) : Int := cpN (crs ax ay bx bY (U k) (V k)) (crs ax ay bx bY (U (k + 1)) (V (k + 1)))
def cxD (ax ay bx bY : Int) (U V : Nat → Int) (k : Nat) : Int := cpD (crs ax ay bx bY (U k) (V k)) (crs ax ay bx bY (U (k + 1)) (V (k + 1)))
def cxT (ax ay bx bY : Int) (T U V : Nat → Int) (k : Nat) : Int := T k + goneI (T (k + 1) - T k) (cxN ax ay bx bY U V k) (cxD ax ay bx bY U V k)
/-- The crossings of the legs below k: the legs. -/
def cxs (ax ay bx bY : Int) (U V : Nat → Int) : Nat → List Nat
 | 0 => []
 | k + 1 => if wyL ax ay bx bY U V k = 0 then cxs ax ay bx bY U V k else cxs ax ay bx bY U V k ++ [k]
theorem cxs_no {ax ay bx bY : Int} {U V : Nat → Int} {k : Nat} (h : wyL ax ay bx bY U V k = 0) : cxs ax ay bx bY U V (k + 1) = cxs ax ay bx bY U V k := by rw [cxs, if_pos h]
theorem cxs_yes {ax ay bx bY : Int} {U V : Nat → Int} {k : Nat} (h : ¬ wyL ax ay bx bY U V k = 0) : cxs ax ay bx bY U V (k + 1) = cxs ax ay bx bY U V k ++ [k] := by rw [cxs, if_neg h]
theorem cxs_len (ax ay bx bY : Int) (U V : Nat → Int) (k : Nat) : (cxs ax ay bx bY U V k).length ≤ k := by
 induction k with
 | zero => exact Nat.le_refl _
 | succ k ih => unfold cxs; split <;> (try rw [List.length_append, List.length_singleton]) <;> omega
theorem cxs_mem (ax ay bx bY : Int) (U V : Nat → Int) (k : Nat) : ∀ j ∈ cxs ax ay bx bY U V k, j < k ∧ ¬ wyL ax ay bx bY U V j = 0 := by
 induction k with
 | zero => intro j hj; exact absurd hj (by simp [cxs])
 | succ k ih =>
  intro j hj
  unfold cxs at hj
  split at hj
  ·have := ih j hj; exact ⟨by omega, this.2⟩
  ·rename_i hw
   rcases List.mem_append.1 hj with h | h
   ·have := ih j h; exact ⟨by omega, this.2⟩
   ·rw [List.mem_singleton] at h; subst h; exact ⟨by omega, hw⟩
/-- A crossing as five words. -/
def cxC (ax ay bx bY : Int) (T U V : Nat → Int) (k : Nat) : List Value := [.int .i64 (cxT ax ay bx bY T U V k), .int .i64 (k : Int), .int .i64 (wyL ax ay bx bY U V k), .int .i64 (cxN ax ay bx bY U V k), .int .i64 (cxD ax ay bx bY U V k)]
def cxCs (ax ay bx bY : Int) (T U V : Nat → Int) (L : List Nat) : List Value := L.flatMap (cxC ax ay bx bY T U V)
theorem cxCs_len (ax ay bx bY : Int) (T U V : Nat → Int) (L : List Nat) : (cxCs ax ay bx bY T U V L).length = L.length * 5 := by
 induction L with
 | nil => rfl
 | cons p L ih => simp only [cxCs, cxC, List.flatMap_cons, List.length_append, List.length_cons, List.length_nil] at ih ⊢; omega
theorem cxCs_app (ax ay bx bY : Int) (T U V : Nat → Int) (L : List Nat) (k : Nat) : cxCs ax ay bx bY T U V (L ++ [k]) = cxCs ax ay bx bY T U V L ++ cxC ax ay bx bY T U V k := by simp [cxCs]
theorem cxCs_at (ax ay bx bY : Int) (T U V : Nat → Int) (L : List Nat) (i j : Nat) (hi : i < L.length) (hj : j < 5) : (cxCs ax ay bx bY T U V L)[i * 5 + j]? = (cxC ax ay bx bY T U V (L[i]?.getD 0))[j]? := by
 induction L generalizing i with
 | nil => exact absurd hi (Nat.not_lt_zero _)
 | cons p L ih =>
  have e : cxCs ax ay bx bY T U V (p :: L) = cxC ax ay bx bY T U V p ++ cxCs ax ay bx bY T U V L := rfl
  have l5 : (cxC ax ay bx bY T U V p).length = 5 := rfl
  cases i with
  | zero => rw [e, Nat.zero_mul, Nat.zero_add, List.getElem?_append_left (by omega)]; rfl
  | succ i =>
   have h1 := ih i (by simpa using hi)
   rw [e, List.getElem?_append_right (by omega), l5, show (i + 1) * 5 + j - 5 = i * 5 + j by omega, h1]
   rfl
/-- The time of the first crossing forward at or behind a time; none: -1. -/
def fcT (ax ay bx bY : Int) (T U V : Nat → Int) (fr : Int) : List Nat → Int
 | [] => -1
 | j :: L => if wyL ax ay bx bY U V j = 1 ∧ fr ≤ cxT ax ay bx bY T U V j then cxT ax ay bx bY T U V j else fcT ax ay bx bY T U V fr L
/-- What a list holds at i. -/
def lgt (L : List Int) (i : Nat) : Int := L[i]?.getD 0
/-- The last of some times, 0 if none. -/
def lastI (L : List Int) : Int := if L.length = 0 then 0 else lgt L (L.length - 1)
/-- The times at which the first k lines are crossed one after the other; whether all of them are. -/
def tmS (A B C D : Nat → Int) (T U V : Nat → Int) (n : Nat) : Nat → List Int × Bool
 | 0 => ([], true)
 | k + 1 =>
  if (tmS A B C D T U V n k).2 = true then
   (if fcT (A k) (B k) (C k) (D k) T U V (lastI (tmS A B C D T U V n k).1) (cxs (A k) (B k) (C k) (D k) U V (n - 1)) < 0 then ((tmS A B C D T U V n k).1, false)
    else ((tmS A B C D T U V n k).1 ++ [fcT (A k) (B k) (C k) (D k) T U V (lastI (tmS A B C D T U V n k).1) (cxs (A k) (B k) (C k) (D k) U V (n - 1))], true))
  else tmS A B C D T U V n k
theorem lgt_app {L : List Int} {x : Int} {i : Nat} (h : i < L.length) : lgt (L ++ [x]) i = lgt L i := by unfold lgt; rw [List.getElem?_append_left h]
theorem lgt_new {L : List Int} {x : Int} : lgt (L ++ [x]) L.length = x := by unfold lgt; rw [List.getElem?_append_right (Nat.le_refl _), Nat.sub_self]; rfl
theorem fcT_cases (ax ay bx bY : Int) (T U V : Nat → Int) (fr : Int) (L : List Nat) : fcT ax ay bx bY T U V fr L = -1 ∨ ∃ j ∈ L, fcT ax ay bx bY T U V fr L = cxT ax ay bx bY T U V j ∧ fr ≤ cxT ax ay bx bY T U V j := by
 induction L with
 | nil => exact .inl rfl
 | cons j L ih =>
  unfold fcT
  split
  ·rename_i h; exact .inr ⟨j, List.mem_cons_self, rfl, h.2⟩
  ·rcases ih with h | ⟨q, h1, h2⟩
   ·exact .inl h
   ·exact .inr ⟨q, List.mem_cons_of_mem _ h1, h2⟩
/-- Times that never go back, from 0 to 10^9. -/
def Inc (L : List Int) : Prop := ∀ i, i < L.length → 0 ≤ lgt L i ∧ lgt L i ≤ 1000000000 ∧ (0 < i → lgt L (i - 1) ≤ lgt L i)
theorem Inc.nil : Inc [] := fun _ hi => absurd hi (Nat.not_lt_zero _)
theorem Inc.app {L : List Int} {x : Int} (h : Inc L) (h0 : 0 ≤ x) (h1 : x ≤ 1000000000) (h2 : lastI L ≤ x) : Inc (L ++ [x]) := fun i hi => by
 rw [List.length_append, List.length_singleton] at hi
 rcases Nat.lt_or_ge i L.length with k | k
 ·obtain ⟨a, b, c⟩ := h i k
  rw [lgt_app k]
  exact ⟨a, b, fun q => by rw [lgt_app (by omega)]; exact c q⟩
 ·obtain rfl : i = L.length := by omega
  rw [lgt_new]
  exact ⟨h0, h1, fun q => by rw [lgt_app (by omega)]; unfold lastI at h2; rwa [if_neg (by omega)] at h2⟩
theorem Inc.last {L : List Int} (h : Inc L) : 0 ≤ lastI L ∧ lastI L ≤ 1000000000 := by
 unfold lastI
 split
 ·omega
 ·obtain ⟨a, b, _⟩ := h (L.length - 1) (by omega); exact ⟨a, b⟩
/-- How many of the first k are at or before a time. -/
def cntL (L : List Int) (t : Int) : Nat → Nat
 | 0 => 0
 | k + 1 => if lgt L k ≤ t then cntL L t k + 1 else cntL L t k
theorem cntL_le (L : List Int) (t : Int) (k : Nat) : cntL L t k ≤ k := by
 induction k with
 | zero => exact Nat.le_refl _
 | succ k ih => unfold cntL; split <;> omega
theorem Inc.mono {L : List Int} (h : Inc L) {i : Nat} : ∀ d, i + d < L.length → lgt L i ≤ lgt L (i + d) := fun d => by
 induction d with
 | zero => intro _; exact Int.le_refl _
 | succ d ih => intro hd; have a := ih (by omega); have b := (h (i + d + 1) hd).2.2 (by omega); simp at b; have : i + (d + 1) = i + d + 1 := by omega
                rw [this]; omega
/-- The first that is behind the time ends the count. -/
theorem cntL_stop {L : List Int} (h : Inc L) {t : Int} {m : Nat} (_ : m ≤ L.length) (h1 : ∀ i, i < m → lgt L i ≤ t) (h2 : m = L.length ∨ t < lgt L m) : ∀ k, k ≤ L.length → cntL L t k = if k ≤ m then k else m := fun k => by
 induction k with
 | zero => intro _; rw [if_pos (Nat.zero_le _)]; rfl
 | succ k ih =>
  intro hk
  have e := ih (by omega)
  unfold cntL
  by_cases q : k < m
  ·rw [if_pos (h1 k q), e, if_pos (by omega), if_pos (by omega)]
  ·have h3 : t < lgt L k := by
    rcases h2 with h2 | h2
    ·omega
    ·have := h.mono (i := m) (k - m) (by omega); rw [show m + (k - m) = k by omega] at this; omega
   rw [if_neg (by omega), e, if_neg (show ¬ k + 1 ≤ m by omega)]
   split <;> omega
theorem cntL_all {L : List Int} (h : Inc L) {t : Int} {m : Nat} (hm : m ≤ L.length) (h1 : ∀ i, i < m → lgt L i ≤ t) (h2 : m = L.length ∨ t < lgt L m) : cntL L t L.length = m := by
 rw [cntL_stop h hm h1 h2 L.length (Nat.le_refl _)]
 split <;> omega
/-- The differences. -/
def dfL (L : List Int) : Nat → List Int
 | 0 => []
 | k + 1 => if k = 0 then [] else dfL L k ++ [lgt L k - lgt L (k - 1)]
theorem dfL_len (L : List Int) (k : Nat) : (dfL L k).length = k - 1 := by
 induction k with
 | zero => rfl
 | succ k ih =>
  unfold dfL
  split
  ·subst k; rfl
  ·rw [List.length_append, List.length_singleton, ih]; omega
theorem tmS_len (A B C D : Nat → Int) (T U V : Nat → Int) (n k : Nat) : (tmS A B C D T U V n k).1.length ≤ k ∧ ((tmS A B C D T U V n k).2 = true → (tmS A B C D T U V n k).1.length = k) := by
 induction k with
 | zero => exact ⟨Nat.le_refl _, fun _ => rfl⟩
 | succ k ih =>
  unfold tmS
  split
  ·rename_i h
   split
   ·exact ⟨by have := ih.1; show (tmS A B C D T U V n k).1.length ≤ _; omega, fun q => absurd q Bool.false_ne_true⟩
   ·have := ih.2 h
    exact ⟨by simp; omega, fun _ => by simp; omega⟩
  ·rename_i h
   exact ⟨by have := ih.1; omega, fun q => absurd q h⟩
/-- The far end of the rounding line of a mark at x y, behind px py. -/
def rlX (px py x y w : Int) : Int := x + (y - py) * w / rt ((x - px) * (x - px) + (y - py) * (y - py))
def rlY (px py x y w : Int) : Int := y - (x - px) * w / rt ((x - px) * (x - px) + (y - py) * (y - py))
def rlW (sd z : Int) : Int := if sd = 2 then -(10 * z) else 10 * z
/-- The rounding line: its four coordinates. -/
def rlA (px py x y sd z : Int) : Int := if sd = 2 then rlX px py x y (rlW sd z) else x
def rlB (px py x y sd z : Int) : Int := if sd = 2 then rlY px py x y (rlW sd z) else y
def rlC (px py x y sd z : Int) : Int := if sd = 2 then x else rlX px py x y (rlW sd z)
def rlD (px py x y sd z : Int) : Int := if sd = 2 then y else rlY px py x y (rlW sd z)
/-- Line i of a course: the start, the rounding lines, the finish. -/
def lnA (ax ay bx bY cx cy dx dy : Int) (n : Nat) (X Y S Z : Nat → Int) (i : Nat) : Int := if i = 0 then ax else if i ≤ n then rlA (stA ((ax + bx) / 2) ((cx + dx) / 2) n X (i - 1)) (stA ((ay + bY) / 2) ((cy + dy) / 2) n Y (i - 1)) (X (i - 1)) (Y (i - 1)) (S (i - 1)) (Z (i - 1)) else cx
def lnB (ax ay bx bY cx cy dx dy : Int) (n : Nat) (X Y S Z : Nat → Int) (i : Nat) : Int := if i = 0 then ay else if i ≤ n then rlB (stA ((ax + bx) / 2) ((cx + dx) / 2) n X (i - 1)) (stA ((ay + bY) / 2) ((cy + dy) / 2) n Y (i - 1)) (X (i - 1)) (Y (i - 1)) (S (i - 1)) (Z (i - 1)) else cy
def lnC (ax ay bx bY cx cy dx dy : Int) (n : Nat) (X Y S Z : Nat → Int) (i : Nat) : Int := if i = 0 then bx else if i ≤ n then rlC (stA ((ax + bx) / 2) ((cx + dx) / 2) n X (i - 1)) (stA ((ay + bY) / 2) ((cy + dy) / 2) n Y (i - 1)) (X (i - 1)) (Y (i - 1)) (S (i - 1)) (Z (i - 1)) else dx
def lnD (ax ay bx bY cx cy dx dy : Int) (n : Nat) (X Y S Z : Nat → Int) (i : Nat) : Int := if i = 0 then bY else if i ≤ n then rlD (stA ((ax + bx) / 2) ((cx + dx) / 2) n X (i - 1)) (stA ((ay + bY) / 2) ((cy + dy) / 2) n Y (i - 1)) (X (i - 1)) (Y (i - 1)) (S (i - 1)) (Z (i - 1)) else dy
/-- The lines below k are lines. -/
def lnsOk (A B C D : Nat → Int) : Nat → Bool
 | 0 => true
 | k + 1 => lnsOk A B C D k && isSg (A k) (B k) (C k) (D k)
theorem lnsOk_t {A B C D : Nat → Int} {k : Nat} (h : lnsOk A B C D k = true) : ∀ i, i < k → isSg (A i) (B i) (C i) (D i) = true := by
 induction k with
 | zero => intro i hi; omega
 | succ k ih =>
  intro i hi
  simp only [lnsOk, Bool.and_eq_true] at h
  by_cases e : i = k
  ·subst e; exact h.2
  ·exact ih h.1 i (by omega)
theorem lnsOk_f {A B C D : Nat → Int} {k i : Nat} (hi : i < k) (h : isSg (A i) (B i) (C i) (D i) = false) : lnsOk A B C D k = false := by
 rcases b2 (lnsOk A B C D k) with g | g
 ·exact g
 ·exact absurd (lnsOk_t g i hi) (by rw [h]; decide)
theorem lnsOk_s {A B C D : Nat → Int} {k : Nat} (h : lnsOk A B C D k = true) (h2 : isSg (A k) (B k) (C k) (D k) = true) : lnsOk A B C D (k + 1) = true := by rw [lnsOk, h, h2]; rfl
/-- A line as four words. -/
def lnW (A B C D : Nat → Int) (i : Nat) : List Value := [.int .i64 (A i), .int .i64 (B i), .int .i64 (C i), .int .i64 (D i)]
def lnWs (A B C D : Nat → Int) : Nat → List Value
 | 0 => []
 | k + 1 => lnWs A B C D k ++ lnW A B C D k
theorem lnWs_len (A B C D : Nat → Int) (k : Nat) : (lnWs A B C D k).length = k * 4 := by
 induction k with
 | zero => rfl
 | succ k ih => rw [lnWs, List.length_append, ih]; show k * 4 + 4 = _; omega
theorem lnWs_at (A B C D : Nat → Int) (k i j : Nat) (hi : i < k) (hj : j < 4) : (lnWs A B C D k)[i * 4 + j]? = (lnW A B C D i)[j]? := by
 induction k with
 | zero => omega
 | succ k ih =>
  have l := lnWs_len A B C D k
  rw [lnWs]
  rcases Nat.lt_or_ge i k with h | h
  ·rw [List.getElem?_append_left (by omega)]; exact ih h
  ·obtain rfl : i = k := by omega
   rw [List.getElem?_append_right (by omega), l, show i * 4 + j - i * 4 = j by omega]
def v4 (A B C D : Nat → Int) (i j : Nat) : Value := .int .i64 (if j = 0 then A i else if j = 1 then B i else if j = 2 then C i else D i)
end Go.Proofs.YtgcdgdnmcdffoaaGreatDoor
