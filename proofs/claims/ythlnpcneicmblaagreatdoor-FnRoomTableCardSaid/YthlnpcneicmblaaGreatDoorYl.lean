/- A list of tracks of the call's own. -/
import Derived.Test.YthlnpcneicmblaaGreatDoorTm
import Derived.Test.YthlnpcneicmblaaGreatDoorYf
namespace Go.Proofs.YthlnpcneicmblaaGreatDoor
open Go.RowKit

theorem infoTrk : (Tryz.prog.info? 45).map (fun i => (i.zero, i.size, i.bytes)) = some (some (.agg #[.slice none 0 0]), 1, 24) := by kernel_rfl
theorem oneT (b : Option Addr) (n c : Nat) : ∀ u ∈ [Value.slice b n c], u.oneCell' = true := fun u hu => by simp only [List.mem_singleton] at hu; subst hu; rfl
/-- The values of a list of tracks. -/
def trVs (A : Nat → Option Addr) (nn C : Nat → Nat) (m : Nat) : List Value := (List.range m).map fun i => .slice (A i) (nn i) (C i)
theorem trVs_len (A : Nat → Option Addr) (nn C : Nat → Nat) (m : Nat) : (trVs A nn C m).length = m := by simp [trVs]
theorem trVs_at {A : Nat → Option Addr} {nn C : Nat → Nat} {m i : Nat} (h : i < m) : (trVs A nn C m)[i]? = some (.slice (A i) (nn i) (C i)) := by simp [trVs, h]
/-- A list of tracks of the call's own, from block B on: each of its own from block D on, in another block. -/
def Trk (w : World) (D B : Nat) (v : Value) (m : Nat) : Prop :=
 ∃ (A : Nat → Option Addr) (nn C : Nat → Nat) (L : Nat → List Int), w.ownsRow B 45 1 v m (trVs A nn C m) ∧ ∀ i, i < m → nn i ≤ 41 ∧ nn i ≤ C i ∧ OwnI 3 2000000000 w D (L i) (nn i) (A i) ∧ ∀ b, A i = some ⟨b, 0, none⟩ → b < w.heap.size ∧ v.ownBlock ≠ some b
theorem Trk.later {w W : World} {D B : Nat} {v : Value} {m : Nat} (h : Trk w D B v m) (hb : Below w.heap.size w W) : Trk W D B v m := by
 obtain ⟨A, nn, C, L, h1, h2⟩ := h
 exact ⟨A, nn, C, L, own_later hb h1, fun i hi => ⟨(h2 i hi).1, (h2 i hi).2.1, (h2 i hi).2.2.1.later hb, fun b e => ⟨Nat.lt_of_lt_of_le ((h2 i hi).2.2.2 b e).1 hb.size, ((h2 i hi).2.2.2 b e).2⟩⟩⟩
theorem Trk.grown {w W : World} {D B g : Nat} {v : Value} {m : Nat} (h : Trk w D B v m) (hg : w.grownBy W (some g)) (hd : g < D) (hl : g < B) : Trk W D B v m := by
 obtain ⟨A, nn, C, L, h1, h2⟩ := h
 exact ⟨A, nn, C, L, own_kept h1 hg hl, fun i hi => ⟨(h2 i hi).1, (h2 i hi).2.1, (h2 i hi).2.2.1.grown hg hd, fun b e => ⟨Nat.lt_of_lt_of_le ((h2 i hi).2.2.2 b e).1 hg.size, ((h2 i hi).2.2.2 b e).2⟩⟩⟩
theorem Trk.far {w : World} {D B : Nat} {v x : Value} {m b j : Nat} (h : Trk w D B v m) (hd : b < D) (hb : b < B) : Trk (w.setCell ⟨b, j, none⟩ x) D B v m := by
 obtain ⟨A, nn, C, L, h1, h2⟩ := h
 exact ⟨A, nn, C, L, own_far h1 hb, fun i hi => ⟨(h2 i hi).1, (h2 i hi).2.1, (h2 i hi).2.2.1.far hd, fun b' e => ⟨by simpa [World.setCell] using ((h2 i hi).2.2.2 b' e).1, ((h2 i hi).2.2.2 b' e).2⟩⟩⟩
theorem Trk.drew {w : World} {D B : Nat} {v : Value} {m : Nat} (h : Trk w D B v m) : Trk w.drew D B v m := h.later (Below.drew (Below.refl _ _))
theorem Trk.at {w : World} {D B x cap : Nat} {m : Nat} (h : Trk w D B (.slice (some ⟨x, 0, none⟩) m cap) m) : B ≤ x ∧ x < w.heap.size := by
 obtain ⟨A, nn, C, L, h1, h2⟩ := h
 exact h1.lt x rfl
theorem Trk.nil {w : World} {D B : Nat} (hB : B ≤ w.heap.size) : Trk (w.alloc (.cells #[] 45)) D B (.slice (some ⟨w.heap.size, 0, none⟩) 0 0) 0 :=
 ⟨fun _ => none, fun _ => 0, fun _ => 0, fun _ => [], World.ownsRow_made (base := B) (e := 45) (size := 1) _ #[] 0 hB (by decide) rfl, fun i hi => absurd hi (Nat.not_lt_zero _)⟩
theorem own_blk {c : Nat} {M : Int} {w : World} {B : Nat} {L : List Int} {n b : Nat} {so : Option Addr} (h : OwnI c M w B L n so) (e : so = some ⟨b, 0, none⟩) : B ≤ b ∧ b < w.heap.size := by
 obtain ⟨_, _, ⟨rfl, _⟩ | ⟨b2, rfl, h3, h4, _⟩⟩ := h
 ·cases e
 ·injection e with e; injection e with e; omega
/-- A list of one track. -/
theorem Trk.one {w : World} {D B n c : Nat} {so : Option Addr} {Lt : List Int} (hB : B ≤ w.heap.size) (hn : n ≤ 41) (hc : n ≤ c) (h : OwnI 3 2000000000 w D Lt n so) : Trk (w.alloc (.cells #[.slice so n c] 45)) D B (.slice (some ⟨w.heap.size, 0, none⟩) 1 1) 1 :=
 ⟨fun _ => so, fun _ => n, fun _ => c, fun _ => Lt, ⟨rfl, .inr ⟨w.heap.size, 1, _, rfl, hB, heap_alloc_new w _, Nat.le_refl _, by decide, rfl, rfl⟩⟩,
  fun i _ => ⟨hn, hc, h.later (Below.alloc (Below.refl _ _) (Nat.le_refl _) _), fun b e => by
   have := own_blk h e
   exact ⟨by simp; omega, by simp only [Value.ownBlock, ne_eq, Option.some.injEq]; omega⟩⟩⟩
/-- A list of two tracks. -/
theorem Trk.two {w : World} {D B n c n3 c3 : Nat} {so so3 : Option Addr} {Lt Lu : List Int} (hB : B ≤ w.heap.size) (hn : n ≤ 41) (hc : n ≤ c) (h : OwnI 3 2000000000 w D Lt n so) (hn3 : n3 ≤ 41) (hc3 : n3 ≤ c3) (h3 : OwnI 3 2000000000 w D Lu n3 so3) :
 Trk (w.alloc (.cells #[.slice so n c, .slice so3 n3 c3] 45)) D B (.slice (some ⟨w.heap.size, 0, none⟩) 2 2) 2 :=
 ⟨fun i => if i = 0 then so else so3, fun i => if i = 0 then n else n3, fun i => if i = 0 then c else c3, fun i => if i = 0 then Lt else Lu, ⟨rfl, .inr ⟨w.heap.size, 2, _, rfl, hB, heap_alloc_new w _, Nat.le_refl _, by decide, rfl, rfl⟩⟩,
  fun i hi => by
   have key : ∀ {s : Option Addr} {L : List Int} {k : Nat}, OwnI 3 2000000000 w D L k s → ∀ b, s = some ⟨b, 0, none⟩ → b < (w.alloc (.cells #[.slice so n c, .slice so3 n3 c3] 45)).heap.size ∧ (Value.slice (some ⟨w.heap.size, 0, none⟩) 2 2).ownBlock ≠ some b := fun h b e => by
    have := own_blk h e
    exact ⟨by simp; omega, by simp only [Value.ownBlock, ne_eq, Option.some.injEq]; omega⟩
   rcases (by omega : i = 0 ∨ i = 1) with rfl | rfl
   ·exact ⟨hn, hc, h.later (Below.alloc (Below.refl _ _) (Nat.le_refl _) _), key h⟩
   ·exact ⟨hn3, hc3, h3.later (Below.alloc (Below.refl _ _) (Nat.le_refl _) _), key h3⟩⟩
theorem made_trs (m : Nat) : (madeCells #[Value.slice none 0 0] m).toList.take (m * 1) = trVs (fun _ => none) (fun _ => 0) (fun _ => 0) m := by
 apply List.ext_getElem?
 intro i
 rcases Nat.lt_or_ge i m with h | h
 ·rw [trVs_at h]; simp [madeCells, h, Nat.mod_one]
 ·rw [List.getElem?_eq_none (by simp [madeCells]; omega), List.getElem?_eq_none (by rw [trVs_len]; exact h)]
/-- Tracks without fixes, made at once. -/
theorem Trk.made {w : World} {D B m : Nat} (hB : B ≤ w.heap.size) (hm : m ≤ 1000) : Trk (w.alloc (.cells (madeCells #[.slice none 0 0] m) 45)) D B (.slice (some ⟨w.heap.size, 0, none⟩) m m) m :=
 ⟨fun _ => none, fun _ => 0, fun _ => 0, fun _ => [], ⟨by rw [trVs_len, Nat.mul_one], .inr ⟨w.heap.size, m, _, rfl, hB, heap_alloc_new w _, Nat.le_refl _, by unfold maxLen; omega, by rw [size_madeCells, Nat.mul_one], made_trs m⟩⟩,
  fun i _ => ⟨Nat.zero_le _, Nat.zero_le _, ⟨rfl, fun i hi => absurd hi (Nat.not_lt_zero _), .inl ⟨rfl, rfl⟩⟩, fun b e => by cases e⟩⟩
/-- A track more. -/
theorem Trk.app {w W : World} {D B : Nat} {g g' m cap cap' n c : Nat} {a : Option Addr} {Lt : List Int} {A : Nat → Option Addr} {nn C : Nat → Nat} {L : Nat → List Int}
 (h2 : ∀ i, i < m → nn i ≤ 41 ∧ nn i ≤ C i ∧ OwnI 3 2000000000 w D (L i) (nn i) (A i) ∧ ∀ b, A i = some ⟨b, 0, none⟩ → b < w.heap.size ∧ (Value.slice (some ⟨g, 0, none⟩) m cap).ownBlock ≠ some b)
 (hn : n ≤ 41) (hc : n ≤ c) (hr : OwnI 3 2000000000 w D Lt n a) (ha : ∀ b, a = some ⟨b, 0, none⟩ → b ≠ g)
 (ho : W.ownsRow B 45 1 (.slice (some ⟨g', 0, none⟩) (m + 1) cap') (m + 1) (trVs A nn C m ++ [.slice a n c]))
 (hgr : w.grownBy W (some g)) (hat : g' = g ∨ w.heap.size ≤ g') :
 Trk W D B (.slice (some ⟨g', 0, none⟩) (m + 1) cap') (m + 1) := by
 have stay : ∀ {b' : Option Addr} {L' : List Int} {k : Nat}, OwnI 3 2000000000 w D L' k b' → (∀ b, b' = some ⟨b, 0, none⟩ → b ≠ g) → OwnI 3 2000000000 W D L' k b' := fun {b' L' k} h hne => by
  obtain ⟨h0, hM, ⟨rfl, h2⟩ | ⟨b, rfl, h3, h4, h5⟩⟩ := h
  ·exact ⟨h0, hM, .inl ⟨rfl, h2⟩⟩
  ·refine ⟨h0, hM, .inr ⟨b, rfl, h3, Nat.lt_of_lt_of_le h4 hgr.size, fun j hj => ?_⟩⟩
   have hbg := hne b rfl
   exact ⟨(gcell hgr b j h4 hbg).trans (h5 j hj).1, (gfroz hgr b j h4 hbg).trans (h5 j hj).2⟩
 have lt_of : ∀ {b' : Option Addr} {L' : List Int} {k b : Nat}, OwnI 3 2000000000 w D L' k b' → b' = some ⟨b, 0, none⟩ → b < w.heap.size := fun {b' L' k b} h e => by
  obtain ⟨_, _, ⟨rfl, _⟩ | ⟨b2, rfl, _, h4, _⟩⟩ := h
  ·cases e
  ·injection e with e; injection e with e; omega
 have key : ∀ b, b ≠ g → b < w.heap.size → (Value.slice (some ⟨g', 0, none⟩) (m + 1) cap').ownBlock ≠ some b := fun b hb hl => by
  simp only [Value.ownBlock, ne_eq, Option.some.injEq]
  rcases hat with k | k <;> omega
 refine ⟨fun i => if i = m then a else A i, fun i => if i = m then n else nn i, fun i => if i = m then c else C i, fun i => if i = m then Lt else L i, ?_, fun i hi => ?_⟩
 ·have e1 : trVs (fun i => if i = m then a else A i) (fun i => if i = m then n else nn i) (fun i => if i = m then c else C i) (m + 1) = trVs A nn C m ++ [.slice a n c] := by
   unfold trVs
   rw [List.range_succ, List.map_append]
   congr 1
   ·refine List.map_congr_left fun j hj => ?_
    have : ¬ j = m := by have := List.mem_range.1 hj; omega
    simp only [this, ↓reduceIte]
   ·simp
  rw [e1]; exact ho
 ·by_cases e1 : i = m
  ·simp only [e1, ↓reduceIte]
   exact ⟨hn, hc, stay hr ha, fun b e => ⟨Nat.lt_of_lt_of_le (lt_of hr e) hgr.size, key b (ha b e) (lt_of hr e)⟩⟩
  ·simp only [e1, ↓reduceIte]
   obtain ⟨a1, a2, a3, a4⟩ := h2 i (by omega)
   have hne : ∀ b, A i = some ⟨b, 0, none⟩ → b ≠ g := fun b e k => (a4 b e).2 (by simp [Value.ownBlock, k])
   exact ⟨a1, a2, stay a3 hne, fun b e => ⟨Nat.lt_of_lt_of_le (a4 b e).1 hgr.size, key b (hne b e) (a4 b e).1⟩⟩
/-- What it reads as. -/
theorem Trk.read {w : World} {D B : Nat} {v : Value} {m : Nat} (h : Trk w D B v m) : ∃ (so : Option Addr) (cap : Nat) (A : Nat → Option Addr) (nn C : Nat → Nat) (T U V : Nat → Nat → Int), v = .slice so m cap ∧ Trs w so m A nn C T U V ∧ ∀ i, i < m → nn i ≤ 41 := by
 obtain ⟨A, nn, C, L, h1, h2⟩ := h
 have hc := fun g (hg : v.ownBlock = some g) => World.ownsRow.cells h1 hg
 obtain ⟨_, ⟨rfl, h0⟩ | ⟨g, cap, cur, rfl, _⟩⟩ := h1
 ·subst h0
  exact ⟨none, 0, A, nn, C, fun _ _ => 0, fun _ _ => 0, fun _ _ => 0, rfl, ⟨fun i hi => absurd hi (Nat.not_lt_zero _), fun i hi => absurd hi (Nat.not_lt_zero _)⟩, fun i hi => absurd hi (Nat.not_lt_zero _)⟩
 ·refine ⟨some ⟨g, 0, none⟩, cap, A, nn, C, _, _, _, rfl, ⟨fun i hi => ⟨g, 0, rfl, fun j hj => ?_⟩, fun i hi => (h2 i hi).2.2.1.row3⟩, fun i hi => (h2 i hi).1⟩
  obtain rfl : j = 0 := by omega
  have := hc g rfl i (.slice (A i) (nn i) (C i)) (trVs_at hi)
  rw [Addr.add_lit, Nat.zero_add] at this
  rw [Nat.mul_one, Nat.add_zero, Nat.zero_add]
  exact this
end Go.Proofs.YthlnpcneicmblaaGreatDoor
