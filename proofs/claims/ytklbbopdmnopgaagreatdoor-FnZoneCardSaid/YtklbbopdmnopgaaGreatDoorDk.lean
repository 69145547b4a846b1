/- Walks: the draws of a wind and points that a law begins with. -/
import Derived.Test.YtklbbopdmnopgaaGreatDoorDq
namespace Go.Proofs.YtklbbopdmnopgaaGreatDoor
open Go.RowKit

theorem own_kept {w W : World} {B g : Nat} {e : TypeId} {size : Nat} {v : Value} {n : Nat} {xs : List Value} (h : w.ownsRow B e size v n xs) (hg : w.grownBy W (some g)) (hl : g < B) : W.ownsRow B e size v n xs :=
 h.kept hg (by
  rcases h.2 with ⟨rfl, _⟩ | ⟨k, cap, cur, rfl, hB, _⟩
  ·exact .inl rfl
  ·exact .inr (by simp [Value.ownBlock]; omega))
theorem made_at (m j : Nat) (hj : j < m) : (madeCells #[Value.int .i64 0, Value.int .i64 0] m)[j]? = some (.int .i64 0) := by
 rcases (by omega : j % 2 = 0 ∨ j % 2 = 1) with k | k <;> simp [madeCells, hj, k]
theorem made_row {W : World} {e : TypeId} {m s b : Nat} (hs : s = 2) (hb : b = W.heap.size) : RowAt (W.alloc (.cells (madeCells #[.int .i64 0, .int .i64 0] (m * s)) e)) (some ⟨b, 0, none⟩) m 2 (v2 (fun _ => 0) fun _ => 0) := by
 subst hs hb
 refine own_row fun i hi j hj => ?_
 rw [World.cell?_alloc_new]
 refine (made_at (m * 2) (i * 2 + j) (by omega)).trans (congrArg some ?_)
 simp [v2]
theorem row_two {W : World} {so : Option Addr} {n c r : Nat} {V : Nat → Nat → Value} {x y : Value} (h : RowAt W so n c V) (hr : ∀ b o, so = some ⟨b, o, none⟩ → b ≠ r) : RowAt ((W.setCell ⟨r, 0, none⟩ x).setCell ⟨r, 1, none⟩ y) so n c V :=
 row_far (row_far h fun b o e _ => hr b o e) fun b o e _ => hr b o e
theorem ownL_row {w W : World} {B g : Nat} {L : List (Int × Int)} {so : Option Addr} (h : OwnL w B L so) (hg : w.grownBy W (some g)) (hl : g < B) : RowAt W so L.length 2 (v2 (LX L) (LY L)) := by
 obtain ⟨h1, ⟨rfl, h2⟩ | ⟨g', rfl, h3, h4, _⟩⟩ := h
 ·exact fun i hi => absurd hi (by omega)
 ·exact own_row fun i hi j hj => (gcell hg g' _ h4 (by omega)).trans (row_own h1 hi hj)
theorem ownL_far {w : World} {B : Nat} {L : List (Int × Int)} {so : Option Addr} (h : OwnL w B L so) : ∀ b o, so = some ⟨b, o, none⟩ → B ≤ b := fun b o e => by
 obtain ⟨_, ⟨rfl, _⟩ | ⟨g', rfl, h3, _⟩⟩ := h
 ·cases e
 ·injection e with e; injection e with e1 e2; omega
end Go.Proofs.YtklbbopdmnopgaaGreatDoor
