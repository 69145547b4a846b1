/- Small words for all walks of this seat: facts on worlds; plain functions that the contracts speak of. -/
import Derived.WalkKit
import Derived.WalkSpells
import Derived.WalkLawsBesides
import Derived.Lib.Hide
namespace Go.Proofs.YthlnpcneicmblaaGreatDoor
open Go.RowKit

theorem hide {p : Prop} (h : p) : Hid p := h

/-- Cells and marks of the elder world, as rules of the walk. -/
theorem bcell {B : Nat} {W w1 : World} (hb : Below B W w1) : (∀ b o, b < B → w1.cell? ⟨b, o, none⟩ = W.cell? ⟨b, o, none⟩) ∧ (∀ b o, b < B → w1.frozen? ⟨b, o, none⟩ = W.frozen? ⟨b, o, none⟩) :=
 ⟨fun b o h => hb.cell (p := ⟨b, o, none⟩) h, fun b o h => hb.frozen (p := ⟨b, o, none⟩) h⟩

theorem bstep {w1 w2 W : World} (h : Below W.heap.size W w1) (k : Below w1.heap.size w1 w2) : Below W.heap.size W w2 := h.trans (k.mono h.size)
/-- Below, behind a store; behind a new block: for the programs that print. -/
theorem bS {B : Nat} {a w : World} (h : Below B a w) {p : Addr} {u : Value} (hp : B ≤ p.block := by first | exact Nat.le_refl _ | (simp; done) | (simp; omega) | (dsimp only; omega)) : Below B a (w.setCell p u) := h.setCell hp u
theorem bA {B : Nat} {a w : World} (h : Below B a w) {o : Obj} (hp : B ≤ w.heap.size := by first | exact Nat.le_refl _ | (simp; done) | (simp; omega) | (simp at *; omega)) : Below B a (w.alloc o) := h.alloc hp o
/-- Below, by what the walk has at hand. -/
theorem bwz {B : Nat} {a w : World} (h : Below B a w := by with_reducible repeat (first | exact Below.refl _ _ | assumption | refine Below.drew ?_ | refine below_drewN ?_ _ | refine bS ?_ | refine bA ?_ | refine bstep ?_ (by assumption))) : Below B a w := h
/-- What a put into a frame of slots is. -/
theorem pz : (∀ (a : Act) (v : Value) (d : Tmp), a.put (some d) v = { tmps := a.tmps.setIfInBounds d v, defers := a.defers }) ∧ (∀ (a : Act) (v : Value), a.put none v = a) ∧ (∀ (l : List Value) (i : Nat) (a : Value), l.toArray.setIfInBounds i a = (l.set i a).toArray) ∧ (∀ (x : Value) (xs : List Value) (a : Value), (x :: xs).set 0 a = a :: xs) ∧ (∀ (x : Value) (xs : List Value) (i : Nat) (a : Value), (x :: xs).set (i + 1) a = x :: xs.set i a) :=
 ⟨fun _ _ _ => rfl, fun _ _ => rfl, fun _ _ _ => List.setIfInBounds_toArray _ _ _, fun _ _ _ => rfl, fun _ _ _ _ => rfl⟩
theorem bsize {w1 w2 : World} {n : Nat} (h : n ≤ w1.heap.size) (k : Below w1.heap.size w1 w2) : n ≤ w2.heap.size := Nat.le_trans h k.size
theorem ret_i {a b : Int} (h : a = b) : Ending.returned (.int .i64 a) = .returned (.int .i64 b) := by rw [h]
theorem ret_b {a b : Bool} (h : a = b) : Ending.returned (.bool a) = .returned (.bool b) := by rw [h]

/-- A choice that no walk takes apart. -/
def sel (b : Bool) (x y : Int) : Int := if b then x else y
def selB (b : Bool) (x y : Bool) : Bool := if b then x else y
theorem b2 (a : Bool) : a = false ∨ a = true := by cases a <;> simp
theorem b3 (a b : Bool) : a = false ∨ (a = true ∧ b = false) ∨ (a = true ∧ b = true) := by cases a <;> cases b <;> simp
theorem b4 (a b c : Bool) : a = false ∨ (a = true ∧ b = false) ∨ (a = true ∧ b = true ∧ c = false) ∨ (a = true ∧ b = true ∧ c = true) := by cases a <;> cases b <;> cases c <;> simp
theorem b5 (a b c d : Bool) : a = false ∨ (a = true ∧ b = false) ∨ (a = true ∧ b = true ∧ c = false) ∨ (a = true ∧ b = true ∧ c = true ∧ d = false) ∨ (a = true ∧ b = true ∧ c = true ∧ d = true) := by cases a <;> cases b <;> cases c <;> cases d <;> simp

/-- n from lo to hi. -/
def inB (n lo hi : Int) : Bool := decide (lo ≤ n ∧ n ≤ hi)
theorem inB_t {n lo hi : Int} (h : inB n lo hi = true) : lo ≤ n ∧ n ≤ hi := by simpa [inB] using h
def isPt (x y : Int) : Bool := inB x (-1000000) 1000000 && inB y (-1000000) 1000000
def isWd (x y : Int) : Bool := inB x (-1000) 1000 && inB y (-1000) 1000 && !(x == 0 && y == 0)
def isHd (x y : Int) : Bool := inB x (-2000000) 2000000 && inB y (-2000000) 2000000 && !(x == 0 && y == 0)
def isHu (bx bY hx hy l : Int) : Bool := isPt bx bY && isHd hx hy && inB l 1 1000
theorem isPt_t {x y : Int} (h : isPt x y = true) : -1000000 ≤ x ∧ x ≤ 1000000 ∧ -1000000 ≤ y ∧ y ≤ 1000000 := by
 simp [isPt, inB] at h; omega
theorem isWd_t {x y : Int} (h : isWd x y = true) : -1000 ≤ x ∧ x ≤ 1000 ∧ -1000 ≤ y ∧ y ≤ 1000 ∧ ¬ (x = 0 ∧ y = 0) := by
 simp [isWd, inB] at h; omega
theorem isHd_t {x y : Int} (h : isHd x y = true) : -2000000 ≤ x ∧ x ≤ 2000000 ∧ -2000000 ≤ y ∧ y ≤ 2000000 ∧ ¬ (x = 0 ∧ y = 0) := by
 simp [isHd, inB] at h; omega
theorem isHu_t {bx bY hx hy l : Int} (h : isHu bx bY hx hy l = true) : isPt bx bY = true ∧ isHd hx hy = true ∧ 1 ≤ l ∧ l ≤ 1000 := by
 simp only [isHu, Bool.and_eq_true] at h
 have := inB_t h.2
 exact ⟨h.1.1, h.1.2, this⟩

def sgn (n : Int) : Int := if 0 < n then 1 else if n < 0 then -1 else 0
def absI (n : Int) : Int := if n < 0 then -n else n
theorem absI_bd {n b : Int} (h1 : -b ≤ n) (h2 : n ≤ b) : 0 ≤ absI n ∧ absI n ≤ b := by unfold absI; split <;> omega
/-- The tack of a heading. -/
def tackI (wx wy x y : Int) : Int := if x * wy - y * wx < 0 then 1 else if 0 < x * wy - y * wx then 2 else 0
/-- The point of sailing. -/
def sailI (wx wy x y : Int) : Int := if x * wx + y * wy < 0 ∧ absI (x * wy - y * wx) ≤ -(x * wx + y * wy) then 1 else if 0 < x * wx + y * wy ∧ absI (x * wy - y * wx) ≤ x * wx + y * wy then 3 else 2
/-- The hull to windward. -/
def wwI (wx wy ax ay bx bY : Int) : Int := if ax * wx + ay * wy < bx * wx + bY * wy then 1 else if bx * wx + bY * wy < ax * wx + ay * wy then 2 else 0
def isRm (g r : Int) : Bool := if r == 2 || r == 3 then inB g 1 2 else inB r 0 4 && (g == 0)

theorem mul_bd {a b A B : Int} (h1 : -A ≤ a) (h2 : a ≤ A) (h3 : -B ≤ b) (h4 : b ≤ B) : -(A * B) ≤ a * b ∧ a * b ≤ A * B := by
 have hA : 0 ≤ A := by omega
 have hB : 0 ≤ B := by omega
 have k1 : (A - a) * (B - b) ≥ 0 := Int.mul_nonneg (by omega) (by omega)
 have k2 : (A + a) * (B + b) ≥ 0 := Int.mul_nonneg (by omega) (by omega)
 have k3 : (A - a) * (B + b) ≥ 0 := Int.mul_nonneg (by omega) (by omega)
 have k4 : (A + a) * (B - b) ≥ 0 := Int.mul_nonneg (by omega) (by omega)
 simp only [Int.mul_add, Int.add_mul, Int.sub_mul, Int.mul_sub] at k1 k2 k3 k4
 constructor <;> omega
/-- Bounds of a product by literals. -/
theorem mul_bd' {a b : Int} (A B C : Int) (h1 : -A ≤ a) (h2 : a ≤ A) (h3 : -B ≤ b) (h4 : b ≤ B) (hc : A * B = C) : -C ≤ a * b ∧ a * b ≤ C := hc ▸ mul_bd h1 h2 h3 h4
/-- A number of at most 4 * 10^18. -/
def Bd (n : Int) : Prop := -4000000000000000000 ≤ n ∧ n ≤ 4000000000000000000
theorem bd_mul {a b : Int} (A B C : Int) (h1 : -A ≤ a) (h2 : a ≤ A) (h3 : -B ≤ b) (h4 : b ≤ B) (hc : A * B = C) (hC : C ≤ 4000000000000000000) : Bd (a * b) := by
 have := mul_bd' A B C h1 h2 h3 h4 hc; unfold Bd; omega
theorem bd_of {n : Int} (h1 : -4000000000000000000 ≤ n) (h2 : n ≤ 4000000000000000000) : Bd n := ⟨h1, h2⟩
/-- The products of a heading and a wind. -/
theorem wh_bd {wx wy x y : Int} (hw : isWd wx wy = true) (hh : isHd x y = true) : Bd (x * wx) ∧ Bd (x * wy) ∧ Bd (y * wx) ∧ Bd (y * wy) := by
 obtain ⟨a1, a2, a3, a4, _⟩ := isWd_t hw
 obtain ⟨b1, b2, b3, b4, _⟩ := isHd_t hh
 exact ⟨bd_mul 2000000 1000 2000000000 b1 b2 a1 a2 (by decide) (by decide), bd_mul 2000000 1000 2000000000 b1 b2 a3 a4 (by decide) (by decide), bd_mul 2000000 1000 2000000000 b3 b4 a1 a2 (by decide) (by decide), bd_mul 2000000 1000 2000000000 b3 b4 a3 a4 (by decide) (by decide)⟩
theorem wp_bd {wx wy x y : Int} (hw : isWd wx wy = true) (hh : isPt x y = true) : Bd (x * wx) ∧ Bd (x * wy) ∧ Bd (y * wx) ∧ Bd (y * wy) := by
 obtain ⟨a1, a2, a3, a4, _⟩ := isWd_t hw
 obtain ⟨b1, b2, b3, b4⟩ := isPt_t hh
 exact ⟨bd_mul 1000000 1000 1000000000 b1 b2 a1 a2 (by decide) (by decide), bd_mul 1000000 1000 1000000000 b1 b2 a3 a4 (by decide) (by decide), bd_mul 1000000 1000 1000000000 b3 b4 a1 a2 (by decide) (by decide), bd_mul 1000000 1000 1000000000 b3 b4 a3 a4 (by decide) (by decide)⟩
end Go.Proofs.YthlnpcneicmblaaGreatDoor
/- Plain laws on tracks: no program in sight. -/
namespace Go.Proofs.YthlnpcneicmblaaGreatDoor
open Go.RowKit

/-- The last leg, of the legs from 0 to k, that begins at or before a time. -/
def legF (T : Nat → Int) (t : Int) : Nat → Nat
 | 0 => 0
 | k + 1 => if t < T (k + 1) then legF T t k else k + 1
theorem legF_le (T : Nat → Int) (t : Int) (k : Nat) : legF T t k ≤ k := by
 induction k with
 | zero => exact Nat.le_refl _
 | succ k ih => unfold legF; split <;> omega
theorem legF_yes {T : Nat → Int} {t : Int} {k : Nat} (h0 : 0 < k) (h : t < T k) : legF T t k = legF T t (k - 1) := by
 obtain ⟨j, rfl⟩ : ∃ j, k = j + 1 := ⟨k - 1, by omega⟩
 show (if t < T (j + 1) then legF T t j else j + 1) = _
 rw [if_pos h]; rfl
theorem legF_no {T : Nat → Int} {t : Int} {k : Nat} (h : k = 0 ∨ T k ≤ t) : legF T t k = k := by
 match k, h with
 | 0, _ => rfl
 | j + 1, h =>
  show (if t < T (j + 1) then legF T t j else j + 1) = _
  rw [if_neg (by omega)]
theorem legF_from {T : Nat → Int} {t : Int} (h : T 0 ≤ t) (k : Nat) : T (legF T t k) ≤ t := by
 induction k with
 | zero => exact h
 | succ k ih => unfold legF; split <;> first | exact ih | omega
/-- A fix is good: its time, its point, later than the one ahead of it. -/
def fixOk (T X Y : Nat → Int) (i : Nat) : Bool := inB (T i) 0 1000000000 && isPt (X i) (Y i) && !(decide (0 < i) && decide (T i ≤ T (i - 1)))
def fixesOk (T X Y : Nat → Int) : Nat → Bool
 | 0 => true
 | k + 1 => fixesOk T X Y k && fixOk T X Y k
/-- A valid track. -/
def isTr (n : Nat) (T X Y : Nat → Int) : Bool := fixesOk T X Y n && inB n 2 40
theorem fixesOk_t {T X Y : Nat → Int} {n : Nat} (h : fixesOk T X Y n = true) : ∀ i, i < n → fixOk T X Y i = true := by
 induction n with
 | zero => intro i hi; omega
 | succ n ih =>
  intro i hi
  simp only [fixesOk, Bool.and_eq_true] at h
  by_cases e : i = n
  ·subst e; exact h.2
  ·exact ih h.1 i (by omega)
theorem fixesOk_f {T X Y : Nat → Int} {n i : Nat} (h : i < n) (hi : fixOk T X Y i = false) : fixesOk T X Y n = false := by
 rcases b2 (fixesOk T X Y n) with k | k
 ·exact k
 ·exact absurd (fixesOk_t k i h) (by rw [hi]; decide)
theorem fixOk_t {T X Y : Nat → Int} {i : Nat} (h : fixOk T X Y i = true) : 0 ≤ T i ∧ T i ≤ 1000000000 ∧ isPt (X i) (Y i) = true ∧ (0 < i → T (i - 1) < T i) := by
 simp only [fixOk, Bool.and_eq_true] at h
 obtain ⟨⟨h1, h2⟩, h3⟩ := h
 have := inB_t h1
 refine ⟨this.1, this.2, h2, fun h0 => ?_⟩
 simp [h0] at h3
 exact h3
theorem isTr_t {n : Nat} {T X Y : Nat → Int} (h : isTr n T X Y = true) : 2 ≤ n ∧ n ≤ 40 ∧ ∀ i, i < n → 0 ≤ T i ∧ T i ≤ 1000000000 ∧ isPt (X i) (Y i) = true ∧ (0 < i → T (i - 1) < T i) := by
 simp only [isTr, Bool.and_eq_true] at h
 have := inB_t h.2
 exact ⟨by omega, by omega, fun i hi => fixOk_t (fixesOk_t h.1 i hi)⟩
theorem isTr_leg {n l : Nat} {T X Y : Nat → Int} (h : isTr n T X Y = true) (hl : l + 1 < n) :
 0 ≤ T l ∧ T l < T (l + 1) ∧ T (l + 1) ≤ 1000000000 ∧ isPt (X l) (Y l) = true ∧ isPt (X (l + 1)) (Y (l + 1)) = true := by
 obtain ⟨_, _, k⟩ := isTr_t h
 have a := k l (by omega)
 have b := k (l + 1) hl
 have := b.2.2.2 (by omega)
 exact ⟨a.1, this, b.2.1, a.2.2.1, b.2.2.1⟩
/-- A coordinate on a leg at a time, rounded down. -/
def posI (a b gone all : Int) : Int := a + (b - a) * gone / all
/-- The split of the reference: the difference in thousands and the rest. -/
theorem posI_split (a b g m : Int) (hm : 0 < m) :
 posI a b g m = a + 1000 * ((b - a) / 1000 * g / m) + (1000 * ((b - a) / 1000 * g - (b - a) / 1000 * g / m * m) + (b - a - 1000 * ((b - a) / 1000)) * g) / m := by
 unfold posI
 have e : (b - a) * g = 1000 * ((b - a) / 1000 * g - (b - a) / 1000 * g / m * m) + (b - a - 1000 * ((b - a) / 1000)) * g + (1000 * ((b - a) / 1000 * g / m)) * m := by grind
 rw [e, Int.add_mul_ediv_right _ _ (by omega)]
 omega
end Go.Proofs.YthlnpcneicmblaaGreatDoor
