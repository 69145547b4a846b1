/- Rows of pairs that the call owns, listed in a row that is appended to; the visits of a zone. -/
import Derived.Test.YtgcdgdnmcdffoaaDoorZc
import Derived.Test.YtgcdgdnmcdffoaaDoorMk
import Derived.Deep.AppendLies
import Derived.Deep.Onto
namespace Go.Proofs.YtgcdgdnmcdffoaaDoor
open Go.RowKit

def TwL (G C : Nat → Nat) (m : Nat) : List Value := (List.range m).map fun j => .slice (some ⟨G j, 0, none⟩) 2 (C j)
theorem TwL_len (G C : Nat → Nat) (m : Nat) : (TwL G C m).length = m := by simp [TwL]
theorem TwL_at {G C : Nat → Nat} {m j : Nat} (h : j < m) : (TwL G C m)[j]? = some (.slice (some ⟨G j, 0, none⟩) 2 (C j)) := by simp [TwL, h]
theorem TwL_more {G C G' C' : Nat → Nat} {m : Nat} (h : ∀ j, j < m → G j = G' j ∧ C j = C' j) : TwL G C m = TwL G' C' m := by
 unfold TwL
 refine List.map_congr_left fun j hj => ?_
 rw [(h j (List.mem_range.1 hj)).1, (h j (List.mem_range.1 hj)).2]
/-- m rows of two integers, each in a block of its own, listed in a row that the call owns. -/
def Tw (w : World) (B : Nat) (e : TypeId) (v : Value) (m : Nat) (P Q : Nat → Int) : Prop :=
 ∃ G C : Nat → Nat, w.ownsRow B e 1 v m (TwL G C m) ∧
  (∀ j, j < m → B ≤ G j ∧ G j < w.heap.size ∧ v.ownBlock ≠ some (G j) ∧ w.cell? ⟨G j, 0, none⟩ = some (.int .i64 (P j)) ∧ w.cell? ⟨G j, 1, none⟩ = some (.int .i64 (Q j)) ∧ w.frozen? ⟨G j, 0, none⟩ = false ∧ w.frozen? ⟨G j, 1, none⟩ = false) ∧
  ∀ i j, i < m → j < m → i ≠ j → G i ≠ G j
theorem Tw.nil {w : World} {B : Nat} {e : TypeId} {P Q : Nat → Int} (hB : B ≤ w.heap.size) : Tw (w.alloc (.cells #[] e)) B e (.slice (some ⟨w.heap.size, 0, none⟩) 0 0) 0 P Q :=
 ⟨fun _ => 0, fun _ => 0, World.ownsRow_made (base := B) (e := e) (size := 1) w #[] 0 hB (by decide) rfl, fun j hj => absurd hj (Nat.not_lt_zero _), fun i j hi => absurd hi (Nat.not_lt_zero _)⟩
theorem Tw.later {w W : World} {B : Nat} {e : TypeId} {v : Value} {m : Nat} {P Q : Nat → Int} (h : Tw w B e v m P Q) (hb : Below w.heap.size w W) : Tw W B e v m P Q := by
 obtain ⟨G, C, h1, h2, h3⟩ := h
 refine ⟨G, C, own_later hb h1, fun j hj => ?_, h3⟩
 obtain ⟨a1, a2, a3, a4, a5, a6, a7⟩ := h2 j hj
 exact ⟨a1, Nat.lt_of_lt_of_le a2 hb.size, a3, cell_later hb a4, cell_later hb a5, frozen_later hb a4 a6, frozen_later hb a5 a7⟩
theorem Tw.congr {w : World} {B : Nat} {e : TypeId} {v : Value} {m : Nat} {P Q P' Q' : Nat → Int} (h : Tw w B e v m P Q) (hP : ∀ j, j < m → P j = P' j ∧ Q j = Q' j) : Tw w B e v m P' Q' := by
 obtain ⟨G, C, h1, h2, h3⟩ := h
 refine ⟨G, C, h1, fun j hj => ?_, h3⟩
 rw [← (hP j hj).1, ← (hP j hj).2]; exact h2 j hj
/-- Row i: where it lies. -/
theorem Tw.at {w : World} {B : Nat} {e : TypeId} {g m cap i : Nat} {P Q : Nat → Int} (h : Tw w B e (.slice (some ⟨g, 0, none⟩) m cap) m P Q) (hi : i < m) :
 ∃ x c, w.cell? ⟨g, i, none⟩ = some (.slice (some ⟨x, 0, none⟩) 2 c) ∧ w.frozen? ⟨g, i, none⟩ = false ∧ B ≤ x ∧ x < w.heap.size ∧ x ≠ g ∧ w.cell? ⟨x, 0, none⟩ = some (.int .i64 (P i)) ∧ w.cell? ⟨x, 1, none⟩ = some (.int .i64 (Q i)) ∧ w.frozen? ⟨x, 0, none⟩ = false ∧ w.frozen? ⟨x, 1, none⟩ = false ∧
  ∀ y : Int, Tw (w.setCell ⟨x, 1, none⟩ (.int .i64 y)) B e (.slice (some ⟨g, 0, none⟩) m cap) m P (fun j => if j = i then y else Q j) := by
 obtain ⟨G, C, h1, h2, h3⟩ := h
 obtain ⟨a1, a2, a3, a4, a5, a6, a7⟩ := h2 i hi
 have hc := h1.cells (g := g) rfl i _ (TwL_at hi)
 rw [Addr.add_lit, Nat.zero_add] at hc
 have hne : G i ≠ g := fun k => a3 (by simp [Value.ownBlock, k])
 refine ⟨G i, C i, hc, h1.frozenAt i, a1, a2, hne, a4, a5, a6, a7, fun y => ⟨G, C, ?_, fun j hj => ?_, h3⟩⟩
 ·exact h1.kept (gr_set (g := G i) ⟨rfl, rfl, rfl, Nat.le_refl _, fun _ _ _ => rfl⟩) (.inr (by simp only [Value.ownBlock, ne_eq, Option.some.injEq]; exact fun k => hne k.symm))
 ·obtain ⟨c1, c2, c3, c4, c5, c6, c7⟩ := h2 j hj
  refine ⟨c1, by simpa [World.setCell] using c2, c3, ?_, ?_, by rw [World.frozen?_setCell]; exact c6, by rw [World.frozen?_setCell]; exact c7⟩
  ·exact (World.cell?_setCell_other _ _ _ _ (fun k => by injection k with _ k; exact absurd k (by decide))).trans c4
  ·by_cases e1 : j = i
   ·subst e1
    simp only [↓reduceIte]
    exact World.cell?_setCell_same _ _ _ c5
   ·simp only [e1, ↓reduceIte]
    exact (World.cell?_setCell_other _ _ _ _ (fun k => h3 j i hj hi e1 (by injection k with k; exact k.symm))).trans c5
/-- What is known of the rows. -/
def TwR (w : World) (B : Nat) (v : Value) (m : Nat) (P Q : Nat → Int) (G : Nat → Nat) : Prop :=
 (∀ j, j < m → B ≤ G j ∧ G j < w.heap.size ∧ v.ownBlock ≠ some (G j) ∧ w.cell? ⟨G j, 0, none⟩ = some (.int .i64 (P j)) ∧ w.cell? ⟨G j, 1, none⟩ = some (.int .i64 (Q j)) ∧ w.frozen? ⟨G j, 0, none⟩ = false ∧ w.frozen? ⟨G j, 1, none⟩ = false) ∧
  ∀ i j, i < m → j < m → i ≠ j → G i ≠ G j
theorem Tw.open {w : World} {B : Nat} {e : TypeId} {v : Value} {m : Nat} {P Q : Nat → Int} (h : Tw w B e v m P Q) : ∃ G C : Nat → Nat, w.ownsRow B e 1 v m (TwL G C m) ∧ TwR w B v m P Q G := by
 obtain ⟨G, C, h1, h2⟩ := h
 exact ⟨G, C, h1, h2⟩
theorem TwR.later {w W : World} {B : Nat} {v : Value} {m : Nat} {P Q : Nat → Int} {G : Nat → Nat} (h : TwR w B v m P Q G) (hb : Below w.heap.size w W) : TwR W B v m P Q G := by
 obtain ⟨h2, h3⟩ := h
 refine ⟨fun j hj => ?_, h3⟩
 obtain ⟨a1, a2, a3, a4, a5, a6, a7⟩ := h2 j hj
 exact ⟨a1, Nat.lt_of_lt_of_le a2 hb.size, a3, cell_later hb a4, cell_later hb a5, frozen_later hb a4 a6, frozen_later hb a5 a7⟩
/-- A row more: it lies in block x, new; the list has been appended to. -/
theorem Tw.app {w0 w W : World} {B : Nat} {e : TypeId} {g g' m cap cap' c x H : Nat} {P Q : Nat → Int} {p q : Int} {G C : Nat → Nat} (h0 : TwR w0 B (.slice (some ⟨g, 0, none⟩) m cap) m P Q G) (hb : Below w0.heap.size w0 w) (hx : w0.heap.size ≤ x)
 (hx0 : B ≤ x) (hx1 : x < w.heap.size) (hxg : x ≠ g)
 (hc0 : w.cell? ⟨x, 0, none⟩ = some (.int .i64 p)) (hc1 : w.cell? ⟨x, 1, none⟩ = some (.int .i64 q)) (hf0 : w.frozen? ⟨x, 0, none⟩ = false) (hf1 : w.frozen? ⟨x, 1, none⟩ = false)
 (ho : W.ownsRow B e 1 (.slice (some ⟨g', 0, none⟩) (m + 1) cap') (m + 1) (TwL G C m ++ [.slice (some ⟨x, 0, none⟩) 2 c]))
 (hgr : w.grownBy W (some g)) (hat : g' = g ∨ g' = H) (hH : w.heap.size ≤ H) :
 Tw W B e (.slice (some ⟨g', 0, none⟩) (m + 1) cap') (m + 1) (fun j => if j = m then p else P j) (fun j => if j = m then q else Q j) := by
 have hn : ∀ j, j < m → G j ≠ x := fun j hj => by have := (h0.1 j hj).2.1; omega
 obtain ⟨h2, h3⟩ := h0.later hb
 have key : ∀ y, y ≠ g → y < w.heap.size → (Value.slice (some ⟨g', 0, none⟩) (m + 1) cap').ownBlock ≠ some y := fun y hy hl => by
  simp only [Value.ownBlock, ne_eq, Option.some.injEq]
  rcases hat with k | k <;> omega
 refine ⟨fun j => if j = m then x else G j, fun j => if j = m then c else C j, ?_, fun j hj => ?_, fun i j hi hj hne => ?_⟩
 ·have e1 : TwL (fun j => if j = m then x else G j) (fun j => if j = m then c else C j) (m + 1) = TwL G C m ++ [.slice (some ⟨x, 0, none⟩) 2 c] := by
   unfold TwL
   rw [List.range_succ, List.map_append]
   congr 1
   ·refine List.map_congr_left fun j hj => ?_
    have : ¬ j = m := by have := List.mem_range.1 hj; omega
    simp only [this, ↓reduceIte]
   ·simp
  rw [e1]; exact ho
 ·by_cases e1 : j = m
  ·simp only [e1, ↓reduceIte]
   exact ⟨hx0, Nat.lt_of_lt_of_le hx1 hgr.size, key x hxg hx1, (gcell hgr x 0 hx1 hxg).trans hc0, (gcell hgr x 1 hx1 hxg).trans hc1, (gfroz hgr x 0 hx1 hxg).trans hf0, (gfroz hgr x 1 hx1 hxg).trans hf1⟩
  ·simp only [e1, ↓reduceIte]
   obtain ⟨a1, a2, a3, a4, a5, a6, a7⟩ := h2 j (by omega)
   have hjg : ¬ G j = g := fun k => a3 (by simp [Value.ownBlock, k])
   exact ⟨a1, Nat.lt_of_lt_of_le a2 hgr.size, key _ hjg a2, (gcell hgr _ 0 a2 hjg).trans a4, (gcell hgr _ 1 a2 hjg).trans a5, (gfroz hgr _ 0 a2 hjg).trans a6, (gfroz hgr _ 1 a2 hjg).trans a7⟩
 ·by_cases e1 : i = m
  ·by_cases e2 : j = m
   ·omega
   ·simp only [e1, e2, ↓reduceIte]
    exact fun k => hn j (by omega) k.symm
  ·by_cases e2 : j = m
   ·simp only [e1, e2, ↓reduceIte]; exact hn i (by omega)
   ·simp only [e1, e2, ↓reduceIte]; exact h3 i j (by omega) (by omega) hne
/-- Row i replaced: its new one lies in block x. -/
theorem Tw.put {w0 w : World} {B : Nat} {e : TypeId} {g m cap i x c : Nat} {P Q : Nat → Int} {p q : Int} (h0 : Tw w0 B e (.slice (some ⟨g, 0, none⟩) m cap) m P Q) (hb : Below w0.heap.size w0 w) (hx : w0.heap.size ≤ x) (hi : i < m)
 (hx0 : B ≤ x) (hx1 : x < w.heap.size) (hxg : x ≠ g)
 (hc0 : w.cell? ⟨x, 0, none⟩ = some (.int .i64 p)) (hc1 : w.cell? ⟨x, 1, none⟩ = some (.int .i64 q)) (hf0 : w.frozen? ⟨x, 0, none⟩ = false) (hf1 : w.frozen? ⟨x, 1, none⟩ = false) :
 Tw (w.setCell ⟨g, i, none⟩ (.slice (some ⟨x, 0, none⟩) 2 c)) B e (.slice (some ⟨g, 0, none⟩) m cap) m (fun j => if j = i then p else P j) (fun j => if j = i then q else Q j) := by
 obtain ⟨G, C, h10, h20⟩ := h0.open
 have hn : ∀ j, j < m → G j ≠ x := fun j hj => by have := (h20.1 j hj).2.1; omega
 have h1 := own_later hb h10
 obtain ⟨h2, h3⟩ := h20.later hb
 obtain ⟨s1, s2⟩ := h1.stored i (.slice (some ⟨x, 0, none⟩) 2 c)
 refine ⟨fun j => if j = i then x else G j, fun j => if j = i then c else C j, ?_, fun j hj => ?_, fun a b ha hb hne => ?_⟩
 ·have e1 : TwL (fun j => if j = i then x else G j) (fun j => if j = i then c else C j) m = (TwL G C m).set i (.slice (some ⟨x, 0, none⟩) 2 c) := by
   apply List.ext_getElem?
   intro j
   rw [List.getElem?_set]
   by_cases hj : j < m
   ·rw [TwL_at hj]
    by_cases e2 : i = j
    ·subst e2; simp [TwL_len, hj]
    ·have e3 : ¬ j = i := fun k => e2 k.symm
     rw [if_neg e2, TwL_at hj]; simp only [e3, ↓reduceIte]
   ·rw [List.getElem?_eq_none (by rw [TwL_len]; omega), if_neg (by omega), List.getElem?_eq_none (by rw [TwL_len]; omega)]
  rw [e1]; exact s1
 ·by_cases e1 : j = i
  ·simp only [e1, ↓reduceIte]
   exact ⟨hx0, Nat.lt_of_lt_of_le hx1 s2.size, by simp only [Value.ownBlock, ne_eq, Option.some.injEq]; exact fun k => hxg k.symm, (gcell s2 x 0 hx1 hxg).trans hc0, (gcell s2 x 1 hx1 hxg).trans hc1, (gfroz s2 x 0 hx1 hxg).trans hf0, (gfroz s2 x 1 hx1 hxg).trans hf1⟩
  ·simp only [e1, ↓reduceIte]
   obtain ⟨a1, a2, a3, a4, a5, a6, a7⟩ := h2 j hj
   have hjg : ¬ G j = g := fun k => a3 (by simp [Value.ownBlock, k])
   exact ⟨a1, Nat.lt_of_lt_of_le a2 s2.size, a3, (gcell s2 _ 0 a2 hjg).trans a4, (gcell s2 _ 1 a2 hjg).trans a5, (gfroz s2 _ 0 a2 hjg).trans a6, (gfroz s2 _ 1 a2 hjg).trans a7⟩
 ·by_cases e1 : a = i
  ·by_cases e2 : b = i
   ·omega
   ·simp only [e1, e2, ↓reduceIte]
    exact fun k => hn b hb k.symm
  ·by_cases e2 : b = i
   ·simp only [e1, e2, ↓reduceIte]; exact hn a ha
   ·simp only [e1, e2, ↓reduceIte]; exact h3 a b ha hb hne
/-- A table of the call's own, whose rows lie anywhere from block B on. -/
def OwU (w : World) (B : Nat) (so : Option Addr) (n : Nat) (R : Nat → List Int) : Prop :=
 n = 0 ∨ ∃ (b : Nat) (G C : Nat → Nat), so = some ⟨b, 0, none⟩ ∧ B ≤ b ∧ b < w.heap.size ∧ (∀ j, j < n → w.cell? ⟨b, j, none⟩ = some (.slice (some ⟨G j, 0, none⟩) (R j).length (C j))) ∧
  (∀ j, j < n → (B ≤ G j ∧ ¬ G j = b) ∧ G j < w.heap.size ∧ ∀ q, q < (R j).length → w.cell? ⟨G j, q, none⟩ = some (.int .i64 ((R j)[q]?.getD 0)) ∧ w.frozen? ⟨G j, q, none⟩ = false) ∧ ∀ i j, i < n → j < n → i ≠ j → G i ≠ G j
theorem Tw.own {w : World} {B : Nat} {e : TypeId} {g m cap : Nat} {P Q : Nat → Int} (h : Tw w B e (.slice (some ⟨g, 0, none⟩) m cap) m P Q) : OwU w B (some ⟨g, 0, none⟩) m (fun j => [P j, Q j]) := by
 obtain ⟨G, C, h1, h2, h3⟩ := h
 have hg := h1.lt g rfl
 refine .inr ⟨g, G, C, rfl, hg.1, hg.2, fun j hj => ?_, fun j hj => ?_, h3⟩
 ·have := h1.cells (g := g) rfl j _ (TwL_at hj)
  rwa [Addr.add_lit, Nat.zero_add] at this
 ·obtain ⟨a1, a2, a3, a4, a5, a6, a7⟩ := h2 j hj
  refine ⟨⟨a1, fun k => a3 (by simp [Value.ownBlock, k])⟩, a2, fun q hq => ?_⟩
  rcases (show q = 0 ∨ q = 1 by simp at hq; omega) with rfl | rfl
  ·exact ⟨a4, a6⟩
  ·exact ⟨a5, a7⟩
theorem OwU.later {w W : World} {B : Nat} {so : Option Addr} {n : Nat} {R : Nat → List Int} (h : OwU w B so n R) (hb : Below w.heap.size w W) : OwU W B so n R := by
 rcases h with h | ⟨b, G, C, h1, h2, h3, h4, h5, h6⟩
 ·exact .inl h
 ·exact .inr ⟨b, G, C, h1, h2, Nat.lt_of_lt_of_le h3 hb.size, fun j hj => cell_later hb (h4 j hj), fun j hj => ⟨(h5 j hj).1, Nat.lt_of_lt_of_le (h5 j hj).2.1 hb.size, fun q hq => ⟨cell_later hb ((h5 j hj).2.2 q hq).1, frozen_later hb ((h5 j hj).2.2 q hq).1 ((h5 j hj).2.2 q hq).2⟩⟩, h6⟩
theorem OwU.mono {w : World} {B B' : Nat} {so : Option Addr} {n : Nat} {R : Nat → List Int} (h : OwU w B so n R) (hB : B' ≤ B) : OwU w B' so n R := by
 rcases h with h | ⟨b, G, C, h1, h2, h3, h4, h5, h6⟩
 ·exact .inl h
 ·exact .inr ⟨b, G, C, h1, by omega, h3, h4, fun j hj => ⟨⟨by have := (h5 j hj).1.1; omega, (h5 j hj).1.2⟩, (h5 j hj).2⟩, h6⟩
theorem OwU.read {w : World} {B : Nat} {so : Option Addr} {n : Nat} {R : Nat → List Int} (h : OwU w B so n R) : RdT w so n R := by
 rcases h with rfl | ⟨b, G, C, rfl, _, _, h4, h5, _⟩
 ·exact RdT.zero _ _ _
 ·refine ⟨fun j => some ⟨G j, 0, none⟩, C, fun i hi => ⟨b, 0, rfl, fun j hj => ?_⟩, fun i hi q hq => ⟨G i, 0, rfl, fun j hj => ?_⟩⟩
  ·obtain rfl : j = 0 := by omega
   rw [Nat.zero_add, Nat.mul_one, Nat.add_zero]; exact h4 i hi
  ·obtain rfl : j = 0 := by omega
   rw [Nat.zero_add, Nat.mul_one, Nat.add_zero]; exact ((h5 i hi).2.2 q hq).1
theorem OwU.grown {w W : World} {B g : Nat} {so : Option Addr} {n : Nat} {R : Nat → List Int} (h : OwU w B so n R) (hg : w.grownBy W (some g)) (hl : g < B) : OwU W B so n R := by
 rcases h with h | ⟨b, G, C, h1, h2, h3, h4, h5, h6⟩
 ·exact .inl h
 ·refine .inr ⟨b, G, C, h1, h2, Nat.lt_of_lt_of_le h3 hg.size, fun j hj => (gcell hg b j h3 (by omega)).trans (h4 j hj), fun j hj => ?_, h6⟩
  obtain ⟨a1, a2, a3⟩ := h5 j hj
  have := a1.1
  exact ⟨a1, Nat.lt_of_lt_of_le a2 hg.size, fun q hq => ⟨(gcell hg _ q a2 (by omega)).trans (a3 q hq).1, (gfroz hg _ q a2 (by omega)).trans (a3 q hq).2⟩⟩
theorem OwU.all {w : World} {B : Nat} {so : Option Addr} {n : Nat} {R : Nat → List Int} (h : OwU w B so n R) : ∃ (b : Nat) (G C : Nat → Nat), (0 < n → so = some ⟨b, 0, none⟩ ∧ B ≤ b ∧ b < w.heap.size) ∧ (∀ j, j < n → w.cell? ⟨b, j, none⟩ = some (.slice (some ⟨G j, 0, none⟩) (R j).length (C j))) ∧
 (∀ j, j < n → (B ≤ G j ∧ ¬ G j = b) ∧ G j < w.heap.size ∧ Mine w (G j) (R j).length) ∧ ∀ i j, i < n → j < n → i ≠ j → G i ≠ G j := by
 rcases h with rfl | ⟨b, G, C, h1, h2, h3, h4, h5, h6⟩
 ·exact ⟨0, fun _ => 0, fun _ => 0, fun h => absurd h (Nat.lt_irrefl _), fun j hj => absurd hj (Nat.not_lt_zero _), fun j hj => absurd hj (Nat.not_lt_zero _), fun i j hi => absurd hi (Nat.not_lt_zero _)⟩
 ·exact ⟨b, G, C, fun _ => ⟨h1, h2, h3⟩, h4, fun j hj => ⟨(h5 j hj).1, (h5 j hj).2.1, fun q hq => ⟨⟨_, ((h5 j hj).2.2 q hq).1⟩, ((h5 j hj).2.2 q hq).2⟩⟩, h6⟩
/-- A leg goes on where the one ahead of it ended. -/
def vsC (f : Nat → Int) (k : Nat) : Bool := decide (0 < k) && (f (k - 1) == f k - 1)
/-- The visits among the first k legs: how many, where they begin, where they end. -/
def vsN (f : Nat → Int) : Nat → Nat
 | 0 => 0
 | k + 1 => if vsC f k = true then vsN f k else vsN f k + 1
def vsA (f : Nat → Int) : Nat → Nat → Int
 | 0 => fun _ => 0
 | k + 1 => if vsC f k = true then vsA f k else fun j => if j = vsN f k then f k else vsA f k j
def vsB (f : Nat → Int) : Nat → Nat → Int
 | 0 => fun _ => 0
 | k + 1 => if vsC f k = true then (fun j => if j = vsN f k - 1 then f k else vsB f k j) else fun j => if j = vsN f k then f k else vsB f k j
theorem vsN_le (f : Nat → Int) (k : Nat) : vsN f k ≤ k := by
 induction k with
 | zero => exact Nat.le_refl _
 | succ k ih => unfold vsN; split <;> omega
theorem vsN_pos {f : Nat → Int} {k : Nat} (h : 0 < k) : 0 < vsN f k := by
 induction k with
 | zero => omega
 | succ k ih =>
  unfold vsN
  split
  ·next hc =>
   simp only [vsC, Bool.and_eq_true, decide_eq_true_eq] at hc
   exact ih hc.1
  ·omega
/-- The last visit ends with the last leg. -/
theorem vsB_last {f : Nat → Int} {k : Nat} (h : 0 < k) : vsB f k (vsN f k - 1) = f (k - 1) := by
 obtain ⟨j, rfl⟩ : ∃ j, k = j + 1 := ⟨k - 1, by omega⟩
 rw [Nat.add_sub_cancel]
 by_cases hc : vsC f j = true
 ·have e1 : vsN f (j + 1) = vsN f j := by rw [vsN, if_pos hc]
  rw [e1, vsB, if_pos hc, if_pos rfl]
 ·have e1 : vsN f (j + 1) = vsN f j + 1 := by rw [vsN, if_neg hc]
  rw [e1, vsB, if_neg hc, if_pos (by omega)]
def gtI (L : List Int) (i : Nat) : Int := L[i]?.getD 0
/-- What VisitsOf returns. -/
def RetV (w : World) (L : List Int) (c : Int) (e : Ending) (w' : World) : Prop :=
 ∃ so cp, e = .returned (.tuple #[.slice so (vsN (gtI L) L.length) cp, .int .i64 c]) ∧ OwU w' w.heap.size so (vsN (gtI L) L.length) (fun j => [vsA (gtI L) L.length j, vsB (gtI L) L.length j]) ∧ Below w.heap.size w w'
end Go.Proofs.YtgcdgdnmcdffoaaDoor
