/- Walks: marks on tracks and on lists of manoeuvres; these lists compared. -/
import Derived.Test.YtklbbopdmnopgaaGreatDoorMp
import Derived.Test.YtklbbopdmnopgaaGreatDoorBs
import Derived.Test.YtklbbopdmnopgaaGreatDoorA
import Derived.Maps.AppendAt
import Derived.Deep.DeepCutAuto
import Derived.Test.YtklbbopdmnopgaaGreatDoorCo
import Derived.Laws.IdiomStrings
import Derived.Test.YtklbbopdmnopgaaGreatDoorKp
namespace Go.Proofs.YtklbbopdmnopgaaGreatDoor
open Go.RowKit

theorem grown_set {w W : World} {g j : Nat} {x : Value} (h : w.grownBy W (some g)) : w.grownBy (W.setCell ⟨g, j, none⟩ x) (some g) :=
 h.trans ⟨rfl, rfl, rfl, by simp [World.setCell], fun k _ hk => Below.heap_setCell _ _ _ k (fun e => hk (by rw [e]))⟩
theorem grown_row {w W : World} {g n c : Nat} {V : Nat → Nat → Value} {so : Option Addr} (hg : w.grownBy W (some g)) (h : ∀ b o, so = some ⟨b, o, none⟩ → b ≠ g) (r : RowAt w so n c V) : RowAt W so n c V := fun i hi => by
 obtain ⟨b, o, e, k⟩ := r i hi
 exact ⟨b, o, e, fun j hj => hg.cell (k j hj) (by simpa using h b o e)⟩
end Go.Proofs.YtklbbopdmnopgaaGreatDoor
/- Walks: marks on courses and, from any number on, on tracks. -/
namespace Go.Proofs.YtklbbopdmnopgaaGreatDoor
open Go.RowKit
theorem gr_below {w W : World} {g : Nat} (hb : Below w.heap.size w W) : w.grownBy W (some g) := ⟨hb.os, hb.tape, hb.output, hb.size, fun k hk _ => hb.block k hk⟩
end Go.Proofs.YtklbbopdmnopgaaGreatDoor
/- Walks: rows of integers, and rows of such rows, compared, marked, held. -/
namespace Go.Proofs.YtklbbopdmnopgaaGreatDoor
open Go.RowKit

/-- A row of integers by a function. -/
def v1 (V : Nat → Int) (i _j : Nat) : Value := .int .i64 (V i)
theorem RowAt.v1 {w : World} {so : Option Addr} {L : List Int} (h : RowAt w so L.length 1 (vI L)) : RowAt w so L.length 1 (v1 fun i => L[i]?.getD 0) := h
theorem mine_grown {w W : World} {h m g : Nat} (k : Mine w h m) (hg : w.grownBy W (some g)) (hn : h < w.heap.size) (hne : ¬ h = g) : Mine W h m := fun j hj => by
 obtain ⟨⟨v, e⟩, f⟩ := k j hj
 exact ⟨⟨v, (gcell hg h j hn hne).trans e⟩, (gfroz hg h j hn hne).trans f⟩
end Go.Proofs.YtklbbopdmnopgaaGreatDoor
/- Rows of integers in memory of the call's own: read, kept, marked. -/
namespace Go.Proofs.YtklbbopdmnopgaaGreatDoor
open Go.RowKit

/-- A list of integers in memory of the call's own, from block B on. -/
def OwZ (w : World) (B : Nat) (so : Option Addr) (L : List Int) : Prop :=
 so = none ∧ L.length = 0 ∨ ∃ g, so = some ⟨g, 0, none⟩ ∧ B ≤ g ∧ g < w.heap.size ∧ ∀ j, j < L.length → w.cell? ⟨g, j, none⟩ = some (.int .i64 (L[j]?.getD 0)) ∧ w.frozen? ⟨g, j, none⟩ = false
theorem OwZ.of {w : World} {B cp : Nat} {e : TypeId} {so : Option Addr} {L : List Int} (h : w.ownsRow B e 1 (.slice so L.length cp) L.length (L.map (Value.int .i64))) : OwZ w B so L := by
 have hlt := h.lt
 rcases hso : so with _ | a
 ·subst hso
  rcases h.2 with ⟨_, h0⟩ | ⟨g, cap, cur, hv, _⟩
  ·exact .inl ⟨rfl, h0⟩
  ·cases hv
 ·subst hso
  rcases h.2 with ⟨hv, _⟩ | ⟨g, cap, cur, hv, _⟩
  ·cases hv
  ·injection hv with e1 e2 e3
   injection e1 with e1
   subst e1
   have hg := h.lt g rfl
   refine .inr ⟨g, rfl, hg.1, hg.2, fun j hj => ⟨?_, ?_⟩⟩
   ·have := h.cells (g := g) rfl j (.int .i64 (L[j]?.getD 0)) (by rw [List.getElem?_map, List.getElem?_eq_getElem hj]; rfl)
    rwa [Addr.add_lit, Nat.zero_add] at this
   ·subst e3; exact h.frozenAt j
theorem OwZ.read {w : World} {B : Nat} {so : Option Addr} {L : List Int} (h : OwZ w B so L) : RowAt w so L.length 1 (v1 fun i => L[i]?.getD 0) := by
 rcases h with ⟨_, h0⟩ | ⟨g, rfl, _, _, h4⟩
 ·exact fun i hi => absurd hi (by omega)
 ·exact fun i hi => ⟨g, 0, rfl, fun j hj => by
   obtain rfl : j = 0 := by omega
   rw [Nat.zero_add, Nat.mul_one, Nat.add_zero]; exact (h4 i hi).1⟩
theorem OwZ.later {w W : World} {B : Nat} {so : Option Addr} {L : List Int} (h : OwZ w B so L) (hb : Below w.heap.size w W) : OwZ W B so L := by
 rcases h with h | ⟨g, h1, h2, h3, h4⟩
 ·exact .inl h
 ·exact .inr ⟨g, h1, h2, Nat.lt_of_lt_of_le h3 hb.size, fun j hj => ⟨cell_later hb (h4 j hj).1, frozen_later hb (h4 j hj).1 (h4 j hj).2⟩⟩
theorem OwZ.grown {w W : World} {B g : Nat} {so : Option Addr} {L : List Int} (h : OwZ w B so L) (hg : w.grownBy W (some g)) (hl : g < B) : OwZ W B so L := by
 rcases h with h | ⟨g', h1, h2, h3, h4⟩
 ·exact .inl h
 ·exact .inr ⟨g', h1, h2, Nat.lt_of_lt_of_le h3 hg.size, fun j hj => ⟨(gcell hg g' j h3 (by omega)).trans (h4 j hj).1, (gfroz hg g' j h3 (by omega)).trans (h4 j hj).2⟩⟩
theorem OwZ.mono {w : World} {B B' : Nat} {so : Option Addr} {L : List Int} (h : OwZ w B so L) (hB : B' ≤ B) : OwZ w B' so L := by
 rcases h with h | ⟨g, h1, h2, h3, h4⟩
 ·exact .inl h
 ·exact .inr ⟨g, h1, by omega, h3, h4⟩
theorem OwZ.mark {w : World} {B : Nat} {so : Option Addr} {L : List Int} (h : OwZ w B so L) : ∃ g, (L.length = 0 ∨ so = some ⟨g, 0, none⟩) ∧ B ≤ g ∧ Mine w g L.length := by
 rcases h with ⟨_, h0⟩ | ⟨g, h1, h2, h3, h4⟩
 ·exact ⟨B, .inl h0, Nat.le_refl _, fun j hj => absurd hj (by omega)⟩
 ·exact ⟨g, .inr h1, h2, fun j hj => ⟨⟨_, (h4 j hj).1⟩, (h4 j hj).2⟩⟩
end Go.Proofs.YtklbbopdmnopgaaGreatDoor
