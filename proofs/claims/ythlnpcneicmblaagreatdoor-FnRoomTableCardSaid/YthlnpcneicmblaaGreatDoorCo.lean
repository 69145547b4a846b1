/- Plain: marks of a course, their names, the stations, when a course is one. -/
import Derived.Test.YthlnpcneicmblaaGreatDoorBase
import Derived.Test.YthlnpcneicmblaaGreatDoorBs
import Derived.Test.YthlnpcneicmblaaGreatDoorI
import Derived.WalkKit
namespace Go.Proofs.YthlnpcneicmblaaGreatDoor
open Go.RowKit

/-- A mark: its name, its place, its side, its zone. -/
def v5 (N : Nat → ByteArray) (X Y S Z : Nat → Int) (i j : Nat) : Value := if j = 0 then .string (N i) else .int .i64 (if j = 1 then X i else if j = 2 then Y i else if j = 3 then S i else Z i)
theorem RowAt.at5 {w : World} {so : Option Addr} {n : Nat} {N : Nat → ByteArray} {X Y S Z : Nat → Int} (h : RowAt w so n 5 (v5 N X Y S Z)) (i : Nat) (hi : i < n) :
 ∃ b o, so = some ⟨b, o, none⟩ ∧ b < w.heap.size ∧ w.cell? ⟨b, o + i * 5, none⟩ = some (.string (N i)) ∧ w.cell? ⟨b, o + i * 5 + 1, none⟩ = some (.int .i64 (X i)) ∧ w.cell? ⟨b, o + i * 5 + 2, none⟩ = some (.int .i64 (Y i)) ∧ w.cell? ⟨b, o + i * 5 + 3, none⟩ = some (.int .i64 (S i)) ∧ w.cell? ⟨b, o + i * 5 + 4, none⟩ = some (.int .i64 (Z i)) := by
 obtain ⟨b, o, e, k⟩ := h i hi
 have k0 := k 0 (by omega)
 have k1 := k 1 (by omega)
 have k2 := k 2 (by omega)
 have k3 := k 3 (by omega)
 have k4 := k 4 (by omega)
 exact ⟨b, o, e, World.block_lt_of_cell? _ _ k0, by simpa [v5] using k0, by simpa [v5] using k1, by simpa [v5] using k2, by simpa [v5] using k3, by simpa [v5] using k4⟩
theorem RowAt.on5 {w : World} {b o n : Nat} {N : Nat → ByteArray} {X Y S Z : Nat → Int} (h : RowAt w (some ⟨b, o, none⟩) n 5 (v5 N X Y S Z)) (i : Nat) (hi : i < n) :
 w.cell? ⟨b, o + i * 5, none⟩ = some (.string (N i)) ∧ w.cell? ⟨b, o + i * 5 + 1, none⟩ = some (.int .i64 (X i)) ∧ w.cell? ⟨b, o + i * 5 + 2, none⟩ = some (.int .i64 (Y i)) ∧ w.cell? ⟨b, o + i * 5 + 3, none⟩ = some (.int .i64 (S i)) ∧ w.cell? ⟨b, o + i * 5 + 4, none⟩ = some (.int .i64 (Z i)) := by
 obtain ⟨b', o', e, _, k⟩ := h.at5 i hi
 simp only [Option.some.injEq, Addr.mk.injEq, and_true] at e
 obtain ⟨rfl, rfl⟩ := e
 exact k
/-- A sign of a mark's name. -/
def chOk (x : Nat) : Bool := (decide (97 ≤ x) && decide (x ≤ 122)) || (decide (48 ≤ x) && decide (x ≤ 57))
/-- Byte i of a text. -/
def byt (s : ByteArray) (i : Nat) : Nat := ((s.data.toList[i]?).getD 0).toNat
/-- The first k bytes of a text are signs of a name. -/
def chsOk (s : ByteArray) : Nat → Bool
 | 0 => true
 | k + 1 => chsOk s k && chOk (byt s k)
theorem chsOk_t {s : ByteArray} {n : Nat} (h : chsOk s n = true) : ∀ i, i < n → chOk (byt s i) = true := by
 induction n with
 | zero => intro i hi; omega
 | succ n ih =>
  intro i hi
  simp only [chsOk, Bool.and_eq_true] at h
  by_cases e : i = n
  ·subst e; exact h.2
  ·exact ih h.1 i (by omega)
theorem chsOk_of {s : ByteArray} {n : Nat} (h : ∀ i, i < n → chOk (byt s i) = true) : chsOk s n = true := by
 induction n with
 | zero => rfl
 | succ n ih => rw [chsOk, ih fun i hi => h i (by omega), h n (by omega)]; rfl
theorem chsOk_f {s : ByteArray} {n i : Nat} (h : i < n) (hi : chOk (byt s i) = false) : chsOk s n = false := by
 rcases b2 (chsOk s n) with k | k
 ·exact k
 ·exact absurd (chsOk_t k i h) (by rw [hi]; decide)
/-- A name of a mark. -/
def nmOk (s : ByteArray) : Bool := inB s.size 1 8 && decide (97 ≤ byt s 0) && chsOk s s.size
theorem byt_at {s : ByteArray} {i : Nat} (h : i < s.size) : byt s i = (s[i]'h).toNat := by
 unfold byt
 have : s.data.toList[i]? = some (s[i]'h) := by
  rw [Array.getElem?_toList]
  exact Array.getElem?_eq_getElem (xs := s.data) h
 rw [this]; rfl
theorem byt_lt (s : ByteArray) (i : Nat) : byt s i < 256 := by unfold byt; exact UInt8.toNat_lt _
def isMk (s : ByteArray) (x y sd zn : Int) : Bool := nmOk s && isPt x y && inB sd 1 2 && inB zn 1 5000
/-- No mark ahead of k has the name s. -/
def fresh (N : Nat → ByteArray) (s : ByteArray) : Nat → Bool
 | 0 => true
 | k + 1 => fresh N s k && !decide (N k = s)
theorem fresh_t {N : Nat → ByteArray} {s : ByteArray} {k : Nat} (h : fresh N s k = true) : ∀ i, i < k → N i ≠ s := by
 induction k with
 | zero => intro i hi; omega
 | succ k ih =>
  intro i hi
  simp only [fresh, Bool.and_eq_true, Bool.not_eq_true', decide_eq_false_iff_not] at h
  by_cases e : i = k
  ·subst e; exact h.2
  ·exact ih h.1 i (by omega)
theorem fresh_f {N : Nat → ByteArray} {s : ByteArray} {k i : Nat} (hi : i < k) (h : N i = s) : fresh N s k = false := by
 rcases b2 (fresh N s k) with c | c
 ·exact c
 ·exact absurd h (fresh_t c i hi)
/-- The first of n marks with the name s, or -1. -/
def nameAt (N : Nat → ByteArray) (s : ByteArray) (n : Nat) : Int := match (List.range n).find? fun i => decide (N i = s) with
 | some i => (i : Int)
 | none => -1
theorem nameAt_hit {N : Nat → ByteArray} {s : ByteArray} {n i : Nat} (hi : i < n) (h : N i = s) (hf : fresh N s i = true) : nameAt N s n = (i : Int) := by
 unfold nameAt
 have : (List.range n).find? (fun i => decide (N i = s)) = some i := by
  rw [List.find?_range_eq_some]
  exact ⟨by simpa using h, by simpa using hi, fun j hj => by simpa using fresh_t hf j hj⟩
 rw [this]
theorem nameAt_miss {N : Nat → ByteArray} {s : ByteArray} {n : Nat} (hf : fresh N s n = true) : nameAt N s n = -1 := by
 unfold nameAt
 have : (List.range n).find? (fun i => decide (N i = s)) = none := by
  rw [List.find?_eq_none]
  intro j hj
  have := fresh_t hf j (by simpa using hj)
  simpa using this
 rw [this]
/-- At a mark's own name: the mark itself just where no mark ahead of it has the name. -/
theorem nameAt_own {N : Nat → ByteArray} {n i : Nat} (hi : i < n) : (fresh N (N i) i = true ∧ nameAt N (N i) n = (i : Int)) ∨ (fresh N (N i) i = false ∧ ∃ j : Nat, j < i ∧ nameAt N (N i) n = (j : Int)) := by
 rcases b2 (fresh N (N i) i) with c | c
 ·refine .inr ⟨c, ?_⟩
  have key : ∀ k, k ≤ i → fresh N (N i) k = true ∨ ∃ j, j < k ∧ N j = N i ∧ fresh N (N i) j = true := by
   intro k
   induction k with
   | zero => intro _; exact .inl rfl
   | succ k ih =>
    intro hk
    rcases ih (by omega) with h | ⟨j, h1, h2⟩
    ·by_cases e : N k = N i
     ·exact .inr ⟨k, by omega, e, h⟩
     ·exact .inl (by rw [fresh, h, decide_eq_false e]; rfl)
    ·exact .inr ⟨j, by omega, h2⟩
  rcases key i (Nat.le_refl _) with h | ⟨j, h1, h2, h3⟩
  ·rw [c] at h; cases h
  ·exact ⟨j, h1, nameAt_hit (by omega) h2 h3⟩
 ·exact .inl ⟨c, nameAt_hit hi rfl c⟩
/-- The first k marks are marks, each with a name of its own. -/
def marksOk (N : Nat → ByteArray) (X Y S Z : Nat → Int) : Nat → Bool
 | 0 => true
 | k + 1 => marksOk N X Y S Z k && isMk (N k) (X k) (Y k) (S k) (Z k) && fresh N (N k) k
theorem marksOk_t {N : Nat → ByteArray} {X Y S Z : Nat → Int} {n : Nat} (h : marksOk N X Y S Z n = true) : ∀ i, i < n → isMk (N i) (X i) (Y i) (S i) (Z i) = true ∧ fresh N (N i) i = true := by
 induction n with
 | zero => intro i hi; omega
 | succ n ih =>
  intro i hi
  simp only [marksOk, Bool.and_eq_true] at h
  by_cases e : i = n
  ·subst e; exact ⟨h.1.2, h.2⟩
  ·exact ih h.1.1 i (by omega)
theorem marksOk_f {N : Nat → ByteArray} {X Y S Z : Nat → Int} {n i : Nat} (h : i < n) (hi : isMk (N i) (X i) (Y i) (S i) (Z i) = false ∨ fresh N (N i) i = false) : marksOk N X Y S Z n = false := by
 rcases b2 (marksOk N X Y S Z n) with k | k
 ·exact k
 ·rcases hi with hi | hi
  ·exact absurd (marksOk_t k i h).1 (by rw [hi]; decide)
  ·exact absurd (marksOk_t k i h).2 (by rw [hi]; decide)
theorem marksOk_s {N : Nat → ByteArray} {X Y S Z : Nat → Int} {k : Nat} (h : marksOk N X Y S Z k = true) (h1 : isMk (N k) (X k) (Y k) (S k) (Z k) = true) (h2 : fresh N (N k) k = true) : marksOk N X Y S Z (k + 1) = true := by rw [marksOk, h, h1, h2]; rfl
/-- The stations: the start's middle, the marks, the finish's middle. -/
def stA (a b : Int) (n : Nat) (X : Nat → Int) (i : Nat) : Int := if i = 0 then a else if i ≤ n then X (i - 1) else b
/-- No two stations behind one another, of the first k + 1, are alike. -/
def apart (X Y : Nat → Int) : Nat → Bool
 | 0 => true
 | k + 1 => apart X Y k && !(X k == X (k + 1) && Y k == Y (k + 1))
theorem apart_t {X Y : Nat → Int} {n : Nat} (h : apart X Y n = true) : ∀ i, i < n → (X i == X (i + 1) && Y i == Y (i + 1)) = false := by
 induction n with
 | zero => intro i hi; omega
 | succ n ih =>
  intro i hi
  simp only [apart, Bool.and_eq_true, Bool.not_eq_true'] at h
  by_cases e : i = n
  ·subst e; exact h.2
  ·exact ih h.1 i (by omega)
theorem apart_f {X Y : Nat → Int} {n i : Nat} (hi : i < n) (h : (X i == X (i + 1) && Y i == Y (i + 1)) = true) : apart X Y n = false := by
 rcases b2 (apart X Y n) with k | k
 ·exact k
 ·exact absurd (apart_t k i hi) (by rw [h]; decide)
theorem apart_s {X Y : Nat → Int} {k : Nat} (h : apart X Y k = true) (h2 : (X k == X (k + 1) && Y k == Y (k + 1)) = false) : apart X Y (k + 1) = true := by rw [apart, h, h2]; rfl
/-- A course is one. -/
def isCo (ax ay bx bY cx cy dx dy : Int) (n : Nat) (N : Nat → ByteArray) (X Y S Z : Nat → Int) : Bool :=
 isSg ax ay bx bY && isSg cx cy dx dy && inB n 1 8 && marksOk N X Y S Z n && apart (stA ((ax + bx) / 2) ((cx + dx) / 2) n X) (stA ((ay + bY) / 2) ((cy + dy) / 2) n Y) (n + 1)
theorem isCo_t {ax ay bx bY cx cy dx dy : Int} {n : Nat} {N : Nat → ByteArray} {X Y S Z : Nat → Int} (h : isCo ax ay bx bY cx cy dx dy n N X Y S Z = true) :
 isSg ax ay bx bY = true ∧ isSg cx cy dx dy = true ∧ 1 ≤ n ∧ n ≤ 8 ∧ ∀ i, i < n → isMk (N i) (X i) (Y i) (S i) (Z i) = true := by
 simp only [isCo, Bool.and_eq_true] at h
 obtain ⟨⟨⟨⟨h1, h2⟩, h3⟩, h4⟩, _⟩ := h
 simp only [inB, decide_eq_true_eq] at h3
 exact ⟨h1, h2, by omega, by omega, fun i hi => (marksOk_t h4 i hi).1⟩
theorem isMk_t {s : ByteArray} {x y sd zn : Int} (h : isMk s x y sd zn = true) : nmOk s = true ∧ isPt x y = true ∧ (1 ≤ sd ∧ sd ≤ 2) ∧ 1 ≤ zn ∧ zn ≤ 5000 := by
 simp only [isMk, Bool.and_eq_true, inB, decide_eq_true_eq] at h
 obtain ⟨⟨⟨h1, h2⟩, h3⟩, h4⟩ := h
 exact ⟨h1, h2, h3, h4⟩
end Go.Proofs.YthlnpcneicmblaaGreatDoor
