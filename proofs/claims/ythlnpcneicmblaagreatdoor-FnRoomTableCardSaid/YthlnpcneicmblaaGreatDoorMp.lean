/- Plain: the manoeuvres of a track, as a list; a row that the call has gathered. -/
import Derived.Test.YthlnpcneicmblaaGreatDoorBase
import Derived.Test.YthlnpcneicmblaaGreatDoorBs
import Derived.Test.YthlnpcneicmblaaGreatDoorPl
import Derived.WalkKit
namespace Go.Proofs.YthlnpcneicmblaaGreatDoor
open Go.RowKit

/-- The tack of a leg. -/
def lgT (wx wy : Int) (X Y : Nat → Int) (l : Nat) : Int := tackI wx wy (X (l + 1) - X l) (Y (l + 1) - Y l)
/-- How far a leg's heading of length 1 leads with the wind. -/
def lgA (wx wy : Int) (X Y : Nat → Int) (l : Nat) : Int :=
 ((X (l + 1) - X l) * wx + (Y (l + 1) - Y l) * wy) / rt ((X (l + 1) - X l) * (X (l + 1) - X l) + (Y (l + 1) - Y l) * (Y (l + 1) - Y l))
/-- Fix k + 1 is a manoeuvre. -/
def isMn (wx wy : Int) (X Y : Nat → Int) (k : Nat) : Bool := !(lgT wx wy X Y k == 0) && !(lgT wx wy X Y (k + 1) == 0) && !(lgT wx wy X Y k == lgT wx wy X Y (k + 1))
def knd (wx wy : Int) (X Y : Nat → Int) (k : Nat) : Int := if lgA wx wy X Y k + lgA wx wy X Y (k + 1) < 0 then 1 else 2
/-- The manoeuvres at the fixes 1 .. k. -/
def mans (wx wy : Int) (X Y : Nat → Int) : Nat → List (Int × Int)
 | 0 => []
 | k + 1 => if isMn wx wy X Y k then mans wx wy X Y k ++ [(((k + 1 : Nat) : Int), knd wx wy X Y k)] else mans wx wy X Y k
def mcells (L : List (Int × Int)) : List Value := L.flatMap fun p => [.int .i64 p.1, .int .i64 p.2]
def LX (L : List (Int × Int)) (i : Nat) : Int := (L[i]?.getD (0, 0)).1
def LY (L : List (Int × Int)) (i : Nat) : Int := (L[i]?.getD (0, 0)).2
theorem mans_yes {wx wy : Int} {X Y : Nat → Int} {k : Nat} (h : isMn wx wy X Y k = true) : mans wx wy X Y (k + 1) = mans wx wy X Y k ++ [(((k + 1 : Nat) : Int), knd wx wy X Y k)] := by
 rw [mans, if_pos h]
theorem mans_no {wx wy : Int} {X Y : Nat → Int} {k : Nat} (h : isMn wx wy X Y k = false) : mans wx wy X Y (k + 1) = mans wx wy X Y k := by
 rw [mans, if_neg (by rw [h]; decide)]
theorem mans_le (wx wy : Int) (X Y : Nat → Int) (k : Nat) : (mans wx wy X Y k).length ≤ k := by
 induction k with
 | zero => exact Nat.le_refl _
 | succ k ih =>
  unfold mans
  split
  ·rw [List.length_append, List.length_singleton]; omega
  ·omega
theorem mans_fix (wx wy : Int) (X Y : Nat → Int) (k : Nat) : ∀ p ∈ mans wx wy X Y k, ∃ j : Nat, p.1 = (j : Int) ∧ 1 ≤ j ∧ j ≤ k := by
 induction k with
 | zero => intro p hp; exact absurd hp (by simp [mans])
 | succ k ih =>
  intro p hp
  unfold mans at hp
  split at hp
  ·rcases List.mem_append.1 hp with h | h
   ·obtain ⟨j, h1, h2, h3⟩ := ih p h; exact ⟨j, h1, h2, by omega⟩
   ·rw [List.mem_singleton] at h; subst h; exact ⟨k + 1, rfl, by omega, by omega⟩
  ·obtain ⟨j, h1, h2, h3⟩ := ih p hp; exact ⟨j, h1, h2, by omega⟩
theorem LX_fix {wx wy : Int} {X Y : Nat → Int} {k i : Nat} (h : i < (mans wx wy X Y k).length) : ∃ j : Nat, LX (mans wx wy X Y k) i = (j : Int) ∧ 1 ≤ j ∧ j ≤ k := by
 unfold LX
 rw [List.getElem?_eq_getElem h]
 exact mans_fix wx wy X Y k _ (List.getElem_mem h)
theorem mcells_len (L : List (Int × Int)) : (mcells L).length = L.length * 2 := by
 induction L with
 | nil => rfl
 | cons p L ih => simp only [mcells, List.flatMap_cons, List.length_append, List.length_cons, List.length_nil] at ih ⊢; omega
theorem mcells_app (L : List (Int × Int)) (p : Int × Int) : mcells (L ++ [p]) = mcells L ++ [.int .i64 p.1, .int .i64 p.2] := by
 simp [mcells]
theorem mcells_at (L : List (Int × Int)) (i j : Nat) (hi : i < L.length) (hj : j < 2) : (mcells L)[i * 2 + j]? = some (v2 (LX L) (LY L) i j) := by
 induction L generalizing i with
 | nil => exact absurd hi (Nat.not_lt_zero _)
 | cons p L ih =>
  cases i with
  | zero => rcases (by omega : j = 0 ∨ j = 1) with rfl | rfl <;> simp [mcells, v2, LX, LY]
  | succ i =>
   have e : mcells (p :: L) = [.int .i64 p.1, .int .i64 p.2] ++ mcells L := rfl
   have h1 := ih i (by simpa using hi)
   have h2 : v2 (LX (p :: L)) (LY (p :: L)) (i + 1) j = v2 (LX L) (LY L) i j := by simp [v2, LX, LY]
   rw [e, List.getElem?_append_right (by simp; omega), h2, ← h1]
   congr 1
   simp
   omega
/-- A list of pairs that lies in memory of the call's own: from block B on. -/
def OwnL (w : World) (B : Nat) (L : List (Int × Int)) (so : Option Addr) : Prop :=
 RowAt w so L.length 2 (v2 (LX L) (LY L)) ∧ (so = none ∧ L.length = 0 ∨ ∃ g, so = some ⟨g, 0, none⟩ ∧ B ≤ g ∧ g < w.heap.size ∧ Mine w g (L.length * 2))
theorem own_of_row {w : World} {B : Nat} {e : TypeId} {v : Value} {L : List (Int × Int)} (h : w.ownsRow B e 2 v L.length (mcells L)) : ∃ so cap, v = .slice so L.length cap ∧ OwnL w B L so := by
 have hc := fun g (hg : v.ownBlock = some g) => World.ownsRow.cells h hg
 obtain ⟨_, ⟨rfl, h0⟩ | ⟨g, cap, cur, rfl, hB, hg, hn, _, hsz, htk⟩⟩ := h
 ·exact ⟨none, 0, by rw [h0], fun i hi => absurd hi (by omega), .inl ⟨rfl, h0⟩⟩
 ·have hcell : ∀ i, i < L.length → ∀ j, j < 2 → w.cell? ⟨g, i * 2 + j, none⟩ = some (v2 (LX L) (LY L) i j) := fun i hi j hj => by
   have := hc g rfl (i * 2 + j) _ (mcells_at L i j hi hj)
   rwa [Addr.add_lit, Nat.zero_add] at this
  have hgl : g < w.heap.size := by
   rcases Nat.lt_or_ge g w.heap.size with h | h
   ·exact h
   ·rw [Array.getElem?_eq_none h] at hg; exact absurd hg (by simp)
  refine ⟨some ⟨g, 0, none⟩, cap, rfl, own_row hcell, .inr ⟨g, rfl, hB, hgl, fun j hj => ⟨⟨v2 (LX L) (LY L) (j / 2) (j % 2), ?_⟩, ?_⟩⟩⟩
  ·have := hcell (j / 2) (by omega) (j % 2) (by omega)
   rwa [show j / 2 * 2 + j % 2 = j by omega] at this
  ·simp [World.frozen?, hg]
theorem OwnL.mono {w : World} {B B' : Nat} {L : List (Int × Int)} {so : Option Addr} (h : OwnL w B L so) (hB : B' ≤ B) : OwnL w B' L so := by
 obtain ⟨h1, h2 | ⟨g, h2, h3, h4⟩⟩ := h
 ·exact ⟨h1, .inl h2⟩
 ·exact ⟨h1, .inr ⟨g, h2, by omega, h4⟩⟩
theorem OwnL.later {w wx : World} {B : Nat} {L : List (Int × Int)} {so : Option Addr} (hb : Below w.heap.size w wx) (h : OwnL w B L so) : OwnL wx B L so := by
 obtain ⟨h1, h2 | ⟨g, h2, h3, h4, h5⟩⟩ := h
 ·exact ⟨h1.later hb, .inl h2⟩
 ·exact ⟨h1.later hb, .inr ⟨g, h2, h3, Nat.lt_of_lt_of_le h4 hb.size, h5.later hb⟩⟩
end Go.Proofs.YthlnpcneicmblaaGreatDoor
