/- The source of draws: where it lies, and what leaves it in order; what a region of draws has gathered. -/
import Derived.Test.YtgcdgdnmcdffoaaGreatDoorIv
import Derived.Test.YtgcdgdnmcdffoaaGreatDoorBs
import Derived.Maps.AppendAt
namespace Go.Proofs.YtgcdgdnmcdffoaaGreatDoor
open Go.RowKit

/-- A row of bytes. -/
def vb (B : Nat → Int) (i _j : Nat) : Value := .int .u8 (B i)
/-- Block g holds a source: its code lies in an elder block. -/
def Src (W : World) (g : Nat) : Prop :=
 ∃ (so : Option Addr) (n cap : Nat) (B : Nat → Int) (a : Nat) (sd : Int), n ≤ 1048576 ∧ RowAt W so n 1 (vb B) ∧ (∀ i, 0 ≤ B i ∧ B i ≤ 255) ∧ (∀ b o, so = some ⟨b, o, none⟩ → 0 < n → b < g) ∧ a ≤ n ∧ 0 ≤ sd ∧ sd < 2147483647 ∧
  W.cell? ⟨g, 0, none⟩ = some (.slice so n cap) ∧ W.cell? ⟨g, 1, none⟩ = some (.int .i64 a) ∧ W.cell? ⟨g, 2, none⟩ = some (.int .i64 sd) ∧ W.frozen? ⟨g, 1, none⟩ = false ∧ W.frozen? ⟨g, 2, none⟩ = false
theorem Src.lt {W : World} {g : Nat} (h : Src W g) : g < W.heap.size := by
 obtain ⟨_, _, _, _, _, _, _, _, _, _, _, _, _, h, _⟩ := h
 exact World.block_lt_of_cell? _ _ h
theorem Src.keep {W W' : World} {g : Nat} (hb : Below W.heap.size W W') (h : Src W g) : Src W' g := by
 obtain ⟨so, n, cap, B, a, sd, h0, h1, h2, h3, h4, h5, h6, c0, c1, c2, f1, f2⟩ := h
 exact ⟨so, n, cap, B, a, sd, h0, h1.later hb, h2, h3, h4, h5, h6, cell_later hb c0, cell_later hb c1, cell_later hb c2, frozen_later hb c1 f1, frozen_later hb c2 f2⟩
theorem Src.alloc {W : World} {g : Nat} (h : Src W g) (o : Obj) : Src (W.alloc o) g := h.keep (Below.alloc (Below.refl _ _) (Nat.le_refl _) _)
theorem row_far {W : World} {so : Option Addr} {n c : Nat} {V : Nat → Nat → Value} {p : Addr} {x : Value} (r : RowAt W so n c V) (h : ∀ b o, so = some ⟨b, o, none⟩ → 0 < n → b ≠ p.block) : RowAt (W.setCell p x) so n c V := fun i hi => by
 obtain ⟨b, o, e, k⟩ := r i hi
 exact ⟨b, o, e, fun j hj => cell_set (k j hj) (h b o e (by omega)).symm⟩
theorem Src.set {W : World} {g : Nat} {p : Addr} {x : Value} (hp : g < p.block) (h : Src W g) : Src (W.setCell p x) g := by
 obtain ⟨so, n, cap, B, a, sd, h0, h1, h2, h3, h4, h5, h6, c0, c1, c2, f1, f2⟩ := h
 have hn : p.block ≠ g := Nat.ne_of_gt hp
 exact ⟨so, n, cap, B, a, sd, h0, row_far h1 (fun b o e e2 => Nat.ne_of_lt (Nat.lt_trans (h3 b o e e2) hp)), h2, h3, h4, h5, h6, cell_set c0 hn, cell_set c1 hn, cell_set c2 hn, (World.frozen?_setCell _ _ _ _).trans f1, (World.frozen?_setCell _ _ _ _).trans f2⟩
theorem gr_set {w W : World} {g j : Nat} {x : Value} (h : w.grownBy W (some g)) : w.grownBy (W.setCell ⟨g, j, none⟩ x) (some g) :=
 h.trans ⟨rfl, rfl, rfl, by simp [World.setCell], fun k _ hk => Below.heap_setCell _ _ _ k (fun e => hk (by rw [e]))⟩
theorem gr_drewN {w W : World} {r : Option Nat} (h : w.grownBy W r) (n : Nat) : w.grownBy (W.drewN n) r := ⟨h.os, h.tape, h.output, h.size, h.block⟩
theorem Src.drewN {W : World} {g : Nat} (h : Src W g) (n : Nat) : Src (W.drewN n) g := h
theorem Src.seed {W : World} {g : Nat} {x : Int} (h : Src W g) (h1 : 0 ≤ x) (h2 : x < 2147483647) : Src (W.setCell ⟨g, 2, none⟩ (.int .i64 x)) g := by
 obtain ⟨so, n, cap, B, a, sd, h0, hr, hB, h3, h4, _, _, c0, c1, c2, f1, f2⟩ := h
 exact ⟨so, n, cap, B, a, x, h0, row_far hr (fun b o e e2 => Nat.ne_of_lt (h3 b o e e2)), hB, h3, h4, h1, h2, cell_off c0 (.inr (by simp)), cell_off c1 (.inr (by simp)), cell_same c2, (World.frozen?_setCell _ _ _ _).trans f1, (World.frozen?_setCell _ _ _ _).trans f2⟩
theorem Src.at {W : World} {g : Nat} {x : Int} {so : Option Addr} {n cap : Nat} (h : Src W g) (hc : W.cell? ⟨g, 0, none⟩ = some (.slice so n cap)) (h1 : 0 ≤ x) (h2 : x ≤ n) : Src (W.setCell ⟨g, 1, none⟩ (.int .i64 x)) g := by
 obtain ⟨so', n', cap', B, a, sd, h0, hr, hB, h3, h4, h5, h6, c0, c1, c2, f1, f2⟩ := h
 rw [hc] at c0
 injection c0 with c0
 injection c0 with e1 e2 e3
 subst e1 e2 e3
 obtain ⟨m, rfl⟩ := Int.eq_ofNat_of_zero_le h1
 exact ⟨so, n, cap, B, m, sd, h0, row_far hr (fun b o e e2 => Nat.ne_of_lt (h3 b o e e2)), hB, h3, by omega, h5, h6, cell_off hc (.inr (by simp)), cell_same c1, cell_off c2 (.inr (by simp)), (World.frozen?_setCell _ _ _ _).trans f1, (World.frozen?_setCell _ _ _ _).trans f2⟩
/-- What a draw leaves of the world: all but the source's own block, and the source in order. -/
def Dr (w : World) (g : Nat) (w' : World) : Prop := w.grownBy w' (some g) ∧ Src w' g
theorem Dr.first {W : World} {g : Nat} (h : Src W g) : World.grownBy W W.drew (some g) ∧ Src W.drew g := ⟨⟨rfl, rfl, rfl, Nat.le_refl _, fun _ _ _ => rfl⟩, h⟩
theorem Dr.step {w W W' : World} {g : Nat} (h : w.grownBy W (some g) ∧ Src W g) (hg : W.grownBy W' (some g)) (hs : Src W' g) : w.grownBy W' (some g) ∧ Src W' g := ⟨h.1.trans hg, hs⟩
theorem grown_new {w W : World} {r : Option Nat} {p : Addr} {x : Value} (h : w.grownBy W r) (hp : w.heap.size ≤ p.block) : w.grownBy (W.setCell p x) r :=
 ⟨h.os, h.tape, h.output, by simpa [World.setCell] using h.size, fun k hk hr => (Below.heap_setCell _ _ _ k (fun e => by omega)).trans (h.block k hk hr)⟩
theorem Dr.sets {w W : World} {g : Nat} {p : Addr} {x : Value} (h : w.grownBy W (some g) ∧ Src W g) (hp : w.heap.size ≤ p.block) (hq : g < p.block) : w.grownBy (W.setCell p x) (some g) ∧ Src (W.setCell p x) g :=
 ⟨grown_new h.1 hp, h.2.set hq⟩
theorem gcell {w W : World} {g : Nat} (h : w.grownBy W (some g)) : ∀ b o, b < w.heap.size → ¬ b = g → W.cell? ⟨b, o, none⟩ = w.cell? ⟨b, o, none⟩ := fun b _ hb hn =>
 World.cell?_of_block (h.block b hb (fun e => hn (Option.some.inj e)))
theorem gfroz {w W : World} {g : Nat} (h : w.grownBy W (some g)) : ∀ b o, b < w.heap.size → ¬ b = g → W.frozen? ⟨b, o, none⟩ = w.frozen? ⟨b, o, none⟩ := fun b _ hb hn =>
 World.frozen?_of_block (h.block b hb (fun e => hn (Option.some.inj e)))
theorem grown_below {w W : World} {r : Option Nat} (h : Below w.heap.size w W) : w.grownBy W r := ⟨h.os, h.tape, h.output, h.size, fun k hk _ => h.block k hk⟩
theorem below_grown' {w W : World} {B g : Nat} (h : w.grownBy W (some g)) (hB : B ≤ w.heap.size) (hg : B ≤ g) : Below B w W :=
 Below.grown (Below.refl _ _) h hB (fun k hk => by simp at hk; omega)
theorem gr_drew {w W : World} {r : Option Nat} (h : w.grownBy W r) : w.grownBy W.drew r := ⟨h.os, h.tape, h.output, h.size, h.block⟩
theorem gr_alloc {w W : World} {r : Option Nat} (h : w.grownBy W r) (o : Obj) : w.grownBy (W.alloc o) r := h.trans (World.grownBy_alloc W o r)
theorem gr_step {w W W' : World} {r : Option Nat} (h : w.grownBy W r) (k : W.grownBy W' r) : w.grownBy W' r := h.trans k
theorem gr_new {w W : World} {r : Option Nat} {p : Addr} {x : Value} (h : w.grownBy W r) (hp : w.heap.size ≤ p.block) : w.grownBy (W.setCell p x) r := grown_new h hp
theorem cell_grown {w W : World} {g b o : Nat} {v : Value} (hg : w.grownBy W (some g)) (hn : b ≠ g) (h : w.cell? ⟨b, o, none⟩ = some v) : W.cell? ⟨b, o, none⟩ = some v :=
 (gcell hg b o (World.block_lt_of_cell? _ _ h) hn).trans h
theorem Shut.go3 {K' : Act → World → Prop} {Jp : Value → World → Prop} {X : Value → Act} {W W' : World} {g : Nat} {a' : Act} {v : Value} (hK : Shut (∀ v W', Jp v W' → K' (X v) W')) (e : X v = a')
 (hg : W.grownBy W' (some g)) (hs : Src W' g) (h : W.grownBy W' (some g) → Src W' g → Jp v W') : K' a' W' := e ▸ hK.out v W' (h hg hs)

theorem gwz {w W : World} {r : Option Nat} (h : w.grownBy W r := by repeat (first | with_reducible exact World.grownBy.refl _ _ | with_reducible assumption | with_reducible refine gr_alloc ?_ _ | with_reducible refine gr_drew ?_ | with_reducible refine gr_drewN ?_ _ | with_reducible refine gr_new ?_ (by first | exact Nat.le_refl _ | (dsimp only; omega) | (simp; omega)) | with_reducible refine gr_step ?_ (by assumption))) : w.grownBy W r := h
theorem swz {W : World} {g : Nat} (h : Src W g := by repeat (first | with_reducible assumption | with_reducible refine Src.alloc ?_ _ | with_reducible refine Src.drewN ?_ _ | with_reducible refine Src.drew ?_ | with_reducible refine Src.set (by first | (dsimp only; omega) | (simp; omega)) ?_)) : Src W g := h
theorem gbz {A : Prop} (h : A := by first | with_reducible assumption | with_reducible exact World.grownBy.refl _ _ | exact World.grownBy_alloc _ _ _) : A := h
theorem sbz {A : Prop} (h : A := by first | with_reducible assumption | exact Src.alloc hnd _) : A := h
/-! What has been gathered in a temporary. -/
def FInt (v : Value) : Prop := ∃ x : Int, v = .int .i64 x
def FBool (v : Value) : Prop := ∃ x : Bool, v = .bool x
def FStr (v : Value) : Prop := ∃ x : ByteArray, v = .string x
def FNat (k : Nat) (v : Value) : Prop := ∃ x : Nat, v = .int .i64 (x : Int) ∧ x < k
def FAgg2 (v : Value) : Prop := ∃ a b : Int, v = .agg #[.int .i64 a, .int .i64 b]
def FAgg5 (v : Value) : Prop := ∃ a b c d e : Int, v = .agg #[.int .i64 a, .int .i64 b, .int .i64 c, .int .i64 d, .int .i64 e]
def FMark (v : Value) : Prop := ∃ (s : ByteArray) (a b c d : Int), v = .agg #[.string s, .int .i64 a, .int .i64 b, .int .i64 c, .int .i64 d]
def FRow (g k : Nat) (v : Value) (W : World) : Prop := ∃ b, v = .slice (some ⟨b, 0, none⟩) k k ∧ b ≠ g ∧ b < W.heap.size ∧ ∀ j, j < k → ∃ z : Int, W.cell? ⟨b, j, none⟩ = some (.int .i64 z)
def FAddr (g : Nat) (v : Value) (W : World) : Prop := ∃ b o, v = .pointer (some ⟨b, o, none⟩) ∧ b ≠ g ∧ b < W.heap.size ∧ ∃ z : Int, W.cell? ⟨b, o, none⟩ = some (.int .i64 z)
def FBox (g : Nat) (w : World) (k : Nat) (v : Value) (W : World) : Prop := ∃ b, v = .pointer (some ⟨b, 0, none⟩) ∧ g < b ∧ w.heap.size ≤ b ∧ b < W.heap.size ∧ ∀ j, j < k → (∃ z, W.cell? ⟨b, j, none⟩ = some z) ∧ W.frozen? ⟨b, j, none⟩ = false
theorem FRow.later {g k : Nat} {v : Value} {W W' : World} (hg : W.grownBy W' (some g)) (h : FRow g k v W) : FRow g k v W' := by
 obtain ⟨b, e, h1, h2, h3⟩ := h
 exact ⟨b, e, h1, Nat.lt_of_lt_of_le h2 hg.size, fun j hj => by obtain ⟨z, hz⟩ := h3 j hj; exact ⟨z, (gcell hg b j h2 h1).trans hz⟩⟩
theorem FAddr.later {g : Nat} {v : Value} {W W' : World} (hg : W.grownBy W' (some g)) (h : FAddr g v W) : FAddr g v W' := by
 obtain ⟨b, o, e, h1, h2, z, hz⟩ := h
 exact ⟨b, o, e, h1, Nat.lt_of_lt_of_le h2 hg.size, z, (gcell hg b o h2 h1).trans hz⟩
theorem FBox.later {g k : Nat} {w : World} {v : Value} {W W' : World} (hg : W.grownBy W' (some g)) (h : FBox g w k v W) : FBox g w k v W' := by
 obtain ⟨b, e, h1, h2, h3, h4⟩ := h
 refine ⟨b, e, h1, h2, Nat.lt_of_lt_of_le h3 hg.size, fun j hj => ?_⟩
 obtain ⟨⟨z, hz⟩, hf⟩ := h4 j hj
 exact ⟨⟨z, (gcell hg b j h3 (by omega)).trans hz⟩, (gfroz hg b j h3 (by omega)).trans hf⟩
theorem FRow.new {g k : Nat} {W : World} (h : g < W.heap.size) (c : Array Value) (t : TypeId) (hc : ∀ j, j < k → ∃ z : Int, c[j]? = some (.int .i64 z)) : FRow g k (.slice (some ⟨W.heap.size, 0, none⟩) k k) (W.alloc (.cells c t)) :=
 ⟨W.heap.size, rfl, by omega, by simp, fun j hj => by rw [World.cell?_alloc_new]; exact hc j hj⟩
theorem FAddr.new {g b o : Nat} {W : World} (h1 : b ≠ g) (h2 : b < W.heap.size) (h3 : ∃ z : Int, W.cell? ⟨b, o, none⟩ = some (.int .i64 z)) : FAddr g (.pointer (some ⟨b, o, none⟩)) W := ⟨b, o, rfl, h1, h2, h3⟩
theorem FBox.new {g k : Nat} {w W : World} (h : g < W.heap.size) (hw : w.heap.size ≤ W.heap.size) (c : Array Value) (t : TypeId) (hc : c.size = k) : FBox g w k (.pointer (some ⟨W.heap.size, 0, none⟩)) (W.alloc (.cells c t)) :=
 ⟨W.heap.size, rfl, h, hw, by simp, fun j hj => ⟨⟨c[j]'(by omega), by rw [World.cell?_alloc_new]; exact Array.getElem?_eq_getElem (by omega)⟩, by rw [World.frozen?_alloc_new]⟩⟩
theorem FBox.ne_new {g k : Nat} {w W : World} {v : Value} (h : FBox g w k v W) : Value.pointer (some ⟨W.heap.size, 0, none⟩) ≠ v := by
 obtain ⟨b, e, _, _, h3, _⟩ := h
 rw [e]
 intro k
 have k2 := Option.some.inj (Value.pointer.inj k)
 have k3 := congrArg Addr.block k2
 simp only at k3
 omega
end Go.Proofs.YtgcdgdnmcdffoaaGreatDoor
/- Rows of integers that the call owns. -/
namespace Go.Proofs.YtgcdgdnmcdffoaaGreatDoor
open Go.RowKit

/-- Three numbers in a temporary. -/
def FAgg3 (v : Value) : Prop := ∃ a b c : Int, v = .agg #[.int .i64 a, .int .i64 b, .int .i64 c]
/-- A row of n elements of c integers each, in memory of the call's own: from block B on; the first integer of none is beyond M. -/
def OwnI (c : Nat) (M : Int) (w : World) (B : Nat) (L : List Int) (n : Nat) (so : Option Addr) : Prop :=
 L.length = n * c ∧ (∀ i, i < n → -M ≤ L[i * c]?.getD 0 ∧ L[i * c]?.getD 0 ≤ M) ∧ (so = none ∧ n = 0 ∨ ∃ g, so = some ⟨g, 0, none⟩ ∧ B ≤ g ∧ g < w.heap.size ∧ ∀ j, j < n * c → w.cell? ⟨g, j, none⟩ = some (.int .i64 (L[j]?.getD 0)) ∧ w.frozen? ⟨g, j, none⟩ = false)
theorem ownI_of_row {c : Nat} {M : Int} {w : World} {B : Nat} {e : TypeId} {v : Value} {L : List Int} {n : Nat} (hl : L.length = n * c) (hM : ∀ i, i < n → -M ≤ L[i * c]?.getD 0 ∧ L[i * c]?.getD 0 ≤ M) (h : w.ownsRow B e c v n (L.map (Value.int .i64))) :
 ∃ so cap, v = .slice so n cap ∧ n ≤ cap ∧ OwnI c M w B L n so := by
 have hc := fun g (hg : v.ownBlock = some g) => World.ownsRow.cells h hg
 obtain ⟨_, ⟨rfl, h0⟩ | ⟨g, cap, cur, rfl, hB, hg, hn, _, hsz, htk⟩⟩ := h
 ·exact ⟨none, 0, by rw [h0], by omega, hl, hM, .inl ⟨rfl, h0⟩⟩
 ·have hgl : g < w.heap.size := by
   rcases Nat.lt_or_ge g w.heap.size with h | h
   ·exact h
   ·rw [Array.getElem?_eq_none h] at hg; exact absurd hg (by simp)
  refine ⟨some ⟨g, 0, none⟩, cap, rfl, hn, hl, hM, .inr ⟨g, rfl, hB, hgl, fun j hj => ⟨?_, ?_⟩⟩⟩
  ·have := hc g rfl j (.int .i64 (L[j]?.getD 0)) (by rw [List.getElem?_map, List.getElem?_eq_getElem (by omega)]; rfl)
   rwa [Addr.add_lit, Nat.zero_add] at this
  ·simp [World.frozen?, hg]
theorem OwnI.grown {c : Nat} {M : Int} {w W : World} {B g : Nat} {L : List Int} {n : Nat} {so : Option Addr} (h : OwnI c M w B L n so) (hg : w.grownBy W (some g)) (hl : g < B) : OwnI c M W B L n so := by
 obtain ⟨h0, hM, ⟨rfl, h2⟩ | ⟨g', rfl, h3, h4, h5⟩⟩ := h
 ·exact ⟨h0, hM, .inl ⟨rfl, h2⟩⟩
 ·refine ⟨h0, hM, .inr ⟨g', rfl, h3, Nat.lt_of_lt_of_le h4 hg.size, fun j hj => ?_⟩⟩
  obtain ⟨e, f⟩ := h5 j hj
  exact ⟨(gcell hg g' j h4 (by omega)).trans e, (gfroz hg g' j h4 (by omega)).trans f⟩
theorem OwnI.later {c : Nat} {M : Int} {w W : World} {B : Nat} {L : List Int} {n : Nat} {so : Option Addr} (h : OwnI c M w B L n so) (hb : Below w.heap.size w W) : OwnI c M W B L n so := by
 obtain ⟨h0, hM, ⟨rfl, h2⟩ | ⟨g', rfl, h3, h4, h5⟩⟩ := h
 ·exact ⟨h0, hM, .inl ⟨rfl, h2⟩⟩
 ·refine ⟨h0, hM, .inr ⟨g', rfl, h3, Nat.lt_of_lt_of_le h4 hb.size, fun j hj => ?_⟩⟩
  obtain ⟨e, f⟩ := h5 j hj
  exact ⟨((bcell hb).1 g' j h4).trans e, ((bcell hb).2 g' j h4).trans f⟩
theorem OwnI.mono {c : Nat} {M M' : Int} {w : World} {B B' : Nat} {L : List Int} {n : Nat} {so : Option Addr} (h : OwnI c M w B L n so) (hM : M ≤ M') (hB : B' ≤ B) : OwnI c M' w B' L n so := by
 obtain ⟨h0, h1, h2 | ⟨g', rfl, h3, h4⟩⟩ := h
 ·exact ⟨h0, fun i hi => by have := h1 i hi; omega, .inl h2⟩
 ·exact ⟨h0, fun i hi => by have := h1 i hi; omega, .inr ⟨g', rfl, by omega, h4⟩⟩
/-- A store into the row. -/
theorem OwnI.set {c : Nat} {M : Int} {w : World} {B g : Nat} {L : List Int} {n : Nat} (h : OwnI c M w B L n (some ⟨g, 0, none⟩)) (j : Nat) (x : Int) (hx : -M ≤ x ∧ x ≤ M) :
 OwnI c M (w.setCell ⟨g, j, none⟩ (.int .i64 x)) B (L.set j x) n (some ⟨g, 0, none⟩) := by
 obtain ⟨h0, hM, ⟨h, _⟩ | ⟨g', e, h3, h4, h5⟩⟩ := h
 ·cases h
 ·injection e with e; injection e with e
  subst e
  refine ⟨by rw [List.length_set]; exact h0, fun i hi => ?_, .inr ⟨g, rfl, h3, by simpa [World.setCell] using h4, fun k hk => ⟨?_, ?_⟩⟩⟩
  ·by_cases e : j = i * c
   ·subst e
    rcases Nat.lt_or_ge (i * c) L.length with k | k
    ·rw [List.getElem?_set_self k]; exact hx
    ·rw [List.getElem?_eq_none (by simpa using k)]; exact ⟨by show -M ≤ 0; omega, by show (0 : Int) ≤ M; omega⟩
   ·rw [List.getElem?_set_ne e]; exact hM i hi
  ·refine (set_row (h5 k hk).1).trans (congrArg some ?_)
   by_cases e : j = k
   ·subst e
    rw [if_pos rfl, List.getElem?_set_self (by omega)]; rfl
   ·rw [if_neg e, List.getElem?_set_ne e]
  ·rw [World.frozen?_setCell]; exact (h5 k hk).2
/-- Fewer of them. -/
theorem OwnI.take {c : Nat} {M : Int} {w : World} {B : Nat} {L : List Int} {n m : Nat} {so : Option Addr} (h : OwnI c M w B L n so) (hm : m ≤ n) : OwnI c M w B (L.take (m * c)) m so := by
 obtain ⟨h0, hM, h⟩ := h
 have hmc : m * c ≤ n * c := Nat.mul_le_mul_right c hm
 refine ⟨by rw [List.length_take]; omega, fun i hi => ?_, ?_⟩
 ·rcases Nat.eq_zero_or_pos c with e | e
  ·subst e; simp; have := hM i (by omega); omega
  ·rw [List.getElem?_take_of_lt (by have := Nat.mul_lt_mul_of_pos_right hi e; omega)]; exact hM i (by omega)
 rcases h with ⟨rfl, h2⟩ | ⟨g', rfl, h3, h4, h5⟩
 ·exact .inl ⟨rfl, by omega⟩
 ·refine .inr ⟨g', rfl, h3, h4, fun j hj => ?_⟩
  rw [List.getElem?_take_of_lt hj]
  exact h5 j (by omega)
def q3 (L : List Int) (k i : Nat) : Int := L[i * 3 + k]?.getD 0
theorem OwnI.row3 {M : Int} {w : World} {B : Nat} {L : List Int} {n : Nat} {so : Option Addr} (h : OwnI 3 M w B L n so) : RowAt w so n 3 (v3 (q3 L 0) (q3 L 1) (q3 L 2)) := by
 obtain ⟨h0, hM, ⟨rfl, h2⟩ | ⟨g', rfl, h3, h4, h5⟩⟩ := h
 ·exact fun i hi => absurd hi (by omega)
 ·refine own_row fun i hi j hj => (h5 _ (by omega)).1.trans (congrArg some ?_)
  rcases (by omega : j = 0 ∨ j = 1 ∨ j = 2) with rfl | rfl | rfl <;> simp [v3, q3]
theorem OwnI.q3_le {M : Int} {w : World} {B : Nat} {L : List Int} {n : Nat} {so : Option Addr} (h : OwnI 3 M w B L n so) (i : Nat) (hi : i < n) : -M ≤ q3 L 0 i ∧ q3 L 0 i ≤ M := h.2.1 i hi
/-- The row's cells, as 'append' asks for them. -/
theorem OwnI.cells {c : Nat} {M : Int} {w : World} {B g : Nat} {L : List Int} {n : Nat} (h : OwnI c M w B L n (some ⟨g, 0, none⟩)) : ∀ (j : Nat) (u : Value), (L.map (Value.int .i64))[j]? = some u → w.cell? ((⟨g, 0, none⟩ : Addr).add j) = some u := fun j u hj => by
 obtain ⟨h0, hM, ⟨h, _⟩ | ⟨g', e, h3, h4, h5⟩⟩ := h
 ·cases h
 ·injection e with e; injection e with e
  subst e
  have hjn : j < L.length := by
   rcases Nat.lt_or_ge j L.length with k | k
   ·exact k
   ·rw [List.getElem?_eq_none (by simpa using k)] at hj; cases hj
  rw [List.getElem?_map, List.getElem?_eq_getElem hjn] at hj
  simp only [Option.map_some, Option.some.injEq] at hj
  subst hj
  have := (h5 j (by omega)).1
  rw [List.getElem?_eq_getElem hjn] at this
  rw [Addr.add_lit, Nat.zero_add]
  exact this
theorem new3 {W : World} {e : TypeId} {x y z : Value} : ∀ (j : Nat) (u : Value), [x, y, z][j]? = some u → (W.alloc (.cells #[x, y, z] e)).cell? ((⟨W.heap.size, 0, none⟩ : Addr).add j) = some u := fun j u hj => by
 match j, hj with
 | 0, hj => simp at hj; subst hj; simp [Addr.add]
 | 1, hj => simp at hj; subst hj; simp [Addr.add]
 | 2, hj => simp at hj; subst hj; simp [Addr.add]
theorem ints_one (L : List Int) : ∀ u ∈ L.map (Value.int .i64), u.oneCell' = true := fun u hu => by
 obtain ⟨x, _, rfl⟩ := List.mem_map.1 hu; rfl
end Go.Proofs.YtgcdgdnmcdffoaaGreatDoor
/- Tables of integers: a row of rows that the call owns; an append that tells where the row then lies. -/
namespace Go.Proofs.YtgcdgdnmcdffoaaGreatDoor
open Go.RowKit

section
variable {P : Program} (w : World)
theorem run_append_where (base : Nat) (t ty e : TypeId) (i : TypeInfo) (z : Value) (size bytes : Nat) (ht : P.underlying t = some (.slice e)) (hi : P.info? e = some i) (hz : i.zero = some z)
 (hsize : i.size = size) (hby : i.bytes = bytes) (hzs : z.cells.size = size) (hsz : 0 < size)
 (g n cap : Nat) (xs : List Value) (hown : w.ownsRow base e size (.slice (some ⟨g, 0, none⟩) n cap) n xs)
 (a : Addr) (m c : Nat) (news : List Value) (hl : news.length = m * size) (hnews : ∀ j u, news[j]? = some u → w.cell? (a.add j) = some u) (h1 : ∀ u ∈ news, u.oneCell' = true)
 (h63 : n + m ≤ maxLen) (hbytes : (n + m) * bytes ≤ 140737488355328) (hbase : base ≤ w.heap.size) :
 ∃ g' cap' w', (Builtin.append_ #[t, t] ty #[.slice (some ⟨g, 0, none⟩) n cap, .slice (some a) m c]).run P w = .ok (.slice (some ⟨g', 0, none⟩) (n + m) cap') w' ∧ w'.ownsRow base e size (.slice (some ⟨g', 0, none⟩) (n + m) cap') (n + m) (xs ++ news) ∧ w.grownBy w' (some g) ∧ (g' = g ∨ g' = w.heap.size) := by
 obtain ⟨v', w', hr, h2, h3, _⟩ := run_append_own (P := P) w base t ty e i z size bytes ht hi hz hsize hby hzs hsz _ n xs hown a m c news hl hnews h1 h63 hbytes hbase
 subst hsize hby
 have holds : ∀ j u, xs[j]? = some u → w.cell? ((⟨g, 0, none⟩ : Addr).add j) = some u := hown.cells (g := g) rfl
 have hlen := hown.1
 obtain ⟨_, ⟨h, _⟩ | ⟨g0, cap0, cur, e0, hbg, hg, hnc, hcm, hcs, htake⟩⟩ := hown
 ·cases h
 ·injection e0 with e1 e2 e3
  injection e1 with e1
  injection e1 with e1
  subst e1 e3
  by_cases hroom : n + m ≤ cap
  ·have hfit : n * i.size + news.length ≤ cur.size := by rw [hl, hcs, ← Nat.add_mul]; exact Nat.mul_le_mul_right _ hroom
   have hr' := run_append_room (P := P) w t ty e i ht hi g n cap cur hg a m c news hl hnews h1 hroom hfit
   have hv : v' = .slice (some ⟨g, 0, none⟩) (n + m) cap := by rw [hr'] at hr; injection hr with e1 _; exact e1.symm
   subst hv
   exact ⟨g, cap, w', hr, h2, h3, .inl rfl⟩
  ·have hr' := run_append_grow (P := P) w t ty e i z ht hi hz ⟨g, 0, none⟩ n cap xs hlen holds a m c news hl hnews (by omega) (by simp only [maxLen] at h63; omega) (growslice_fits (by omega) hbytes)
   have hv := hr'.symm.trans hr
   injection hv with e1 _
   subst e1
   exact ⟨_, _, w', hr, h2, h3, .inr rfl⟩
theorem wpList_append_where {w : World} {ops : Array Oper} {rest : List Oper} {o : Oper} {a : Act} {Q : Exit → Act → World → Prop} (hgd : o.guard = none) (s x : Operand) (t : TypeId)
 (ho : o.op = .call { callee := .builtin .append, args := #[s, x], argTypes := #[t, t] })
 (base : Nat) (e : TypeId) (i : TypeInfo) (z : Value) (size bytes : Nat) (ht : P.underlying t = some (.slice e)) (hi : P.info? e = some i) (hz : i.zero = some z)
 (hsize : i.size = size) (hby : i.bytes = bytes) (hzs : z.cells.size = size) (hsz : 0 < size)
 (g n cap : Nat) (xs : List Value) (hs : a.eval s = .slice (some ⟨g, 0, none⟩) n cap) (hown : w.ownsRow base e size (.slice (some ⟨g, 0, none⟩) n cap) n xs)
 (ad : Addr) (m c : Nat) (news : List Value) (hx : a.eval x = .slice (some ad) m c) (hl : news.length = m * size) (hnews : ∀ j u, news[j]? = some u → w.cell? (ad.add j) = some u) (h1 : ∀ u ∈ news, u.oneCell' = true)
 (h63 : n + m ≤ maxLen) (hbytes : (n + m) * bytes ≤ 140737488355328) (hbase : base ≤ w.heap.size)
 (h : ∀ g' cap' w', w'.ownsRow base e size (.slice (some ⟨g', 0, none⟩) (n + m) cap') (n + m) (xs ++ news) → w.grownBy w' (some g) → (g' = g ∨ g' = w.heap.size) → wpList P ops Q rest (a.put o.dst (.slice (some ⟨g', 0, none⟩) (n + m) cap')) w') :
 wpList P ops Q (o :: rest) a w := by
 refine wpList_plain hgd fun K hK => ?_
 obtain ⟨g', cap', w', hr, h2, h3, h4⟩ := run_append_where (P := P) w base t o.type e i z size bytes ht hi hz hsize hby hzs hsz g n cap xs hown ad m c news hl hnews h1 h63 hbytes hbase
 unfold Oper.wp execOp
 simp only [ho, resolve, invoke, builtin, Sem.run_bind, Sem.run_pure, Result.andThen_ok, List.map_toArray, List.map_cons, List.map_nil, hs, hx, hr]
 exact hK _ _ (h g' cap' w' h2 h3 h4)
end

/-- A row of integers. -/
def vI (L : List Int) (i _j : Nat) : Value := .int .i64 (L[i]?.getD 0)
/-- A row of rows. -/
def vS (A : Nat → Option Addr) (R : Nat → List Int) (C : Nat → Nat) (i _j : Nat) : Value := .slice (A i) (R i).length (C i)
/-- The slice at 'so' has n elements; element i reads as the list R i. -/
def RdT (w : World) (so : Option Addr) (n : Nat) (R : Nat → List Int) : Prop := ∃ (A : Nat → Option Addr) (C : Nat → Nat), RowAt w so n 1 (vS A R C) ∧ ∀ i, i < n → RowAt w (A i) (R i).length 1 (vI (R i))
theorem RdT.later {w W : World} {so : Option Addr} {n : Nat} {R : Nat → List Int} (h : RdT w so n R) (hb : Below w.heap.size w W) : RdT W so n R := by
 obtain ⟨A, C, h1, h2⟩ := h
 exact ⟨A, C, h1.later hb, fun i hi => (h2 i hi).later hb⟩
theorem RdT.zero (w : World) (so : Option Addr) (R : Nat → List Int) : RdT w so 0 R := ⟨fun _ => none, fun _ => 0, row_zero _ _ _ _, fun _ hi => absurd hi (Nat.not_lt_zero _)⟩
theorem RowAt.at1 {w : World} {so : Option Addr} {n : Nat} {V : Nat → Nat → Value} (h : RowAt w so n 1 V) (i : Nat) (hi : i < n) : ∃ b o, so = some ⟨b, o, none⟩ ∧ b < w.heap.size ∧ w.cell? ⟨b, o + i, none⟩ = some (V i 0) := by
 obtain ⟨b, o, e, k⟩ := h i hi
 have k0 := k 0 (by omega)
 rw [Nat.mul_one, Nat.add_zero] at k0
 exact ⟨b, o, e, World.block_lt_of_cell? _ _ k0, k0⟩

/-- The table that lies in block b: k of its rows are laid; each row in a block of its own, behind b. -/
def Tb (w : World) (e : TypeId) (b k d : Nat) (R : Nat → List Int) : Prop :=
 ∃ G C : Nat → Nat, (∀ j, j < k → w.cell? ⟨b, j, none⟩ = some (.slice (some ⟨G j, 0, none⟩) (R j).length (C j)) ∧ w.ownsRow (b + 1) e 1 (.slice (some ⟨G j, 0, none⟩) (R j).length (C j)) (R j).length ((R j).map (Value.int .i64))) ∧
  (∀ i j, i < k → j < k → i ≠ j → G i ≠ G j) ∧ ∀ j, j < k → G j ≠ d
theorem Tb.zero (w : World) (e : TypeId) (b d : Nat) (R : Nat → List Int) : Tb w e b 0 d R := ⟨fun _ => 0, fun _ => 0, fun _ h => absurd h (Nat.not_lt_zero _), fun _ _ h => absurd h (Nat.not_lt_zero _), fun _ h => absurd h (Nat.not_lt_zero _)⟩
theorem own_set {w : World} {B : Nat} {e : TypeId} {size : Nat} {v x : Value} {n : Nat} {xs : List Value} {b j : Nat} (h : w.ownsRow B e size v n xs) (hb : b < B) : (w.setCell ⟨b, j, none⟩ x).ownsRow B e size v n xs :=
 h.kept (gr_set (g := b) ⟨rfl, rfl, rfl, Nat.le_refl _, fun _ _ _ => rfl⟩) (by
  rcases hv : v.ownBlock with _ | k
  ·exact .inl rfl
  ·have := (h.lt k hv).1
   exact .inr (by simp; omega))
theorem Tb.later {w W : World} {e : TypeId} {b k d : Nat} {R : Nat → List Int} (h : Tb w e b k d R) (hb : Below w.heap.size w W) : Tb W e b k d R := by
 obtain ⟨G, C, h1, h2⟩ := h
 exact ⟨G, C, fun j hj => ⟨cell_later hb (h1 j hj).1, own_later hb (h1 j hj).2⟩, h2⟩
/-- A block that is newer than all is none of them; nor is the table's own. -/
theorem Tb.new {w : World} {e : TypeId} {b k d : Nat} {R : Nat → List Int} (h : Tb w e b k d R) : Tb w e b k w.heap.size R := by
 obtain ⟨G, C, h1, h2, _⟩ := h
 exact ⟨G, C, h1, h2, fun j hj => by have := ((h1 j hj).2.lt (G j) rfl).2; omega⟩
theorem Tb.old {w : World} {e : TypeId} {b k d : Nat} {R : Nat → List Int} (h : Tb w e b k d R) : Tb w e b k b R := by
 obtain ⟨G, C, h1, h2, _⟩ := h
 exact ⟨G, C, h1, h2, fun j hj => by have := ((h1 j hj).2.lt (G j) rfl).1; omega⟩
theorem Tb.congr {w : World} {e : TypeId} {b k d : Nat} {R R' : Nat → List Int} (h : Tb w e b k d R) (hR : ∀ j, j < k → R j = R' j) : Tb w e b k d R' := by
 obtain ⟨G, C, h1, h2⟩ := h
 exact ⟨G, C, fun j hj => by rw [← hR j hj]; exact h1 j hj, h2⟩
/-- One row more: an empty one. -/
theorem Tb.lay {w : World} {e : TypeId} {b k n d : Nat} {R : Nat → List Int} (h : Tb w e b k d R) (hm : Mine w b n) (hk : k < n) (hbl : b < w.heap.size) (hd : d < w.heap.size) (hR : R k = []) :
 Tb ((w.setCell ⟨b, k, none⟩ (.slice (some ⟨w.heap.size, 0, none⟩) 0 0)).alloc (.cells #[] e)) e b (k + 1) d R := by
 rw [← World.setCell_alloc_past _ _ _ _ hbl]
 obtain ⟨G, C, h1, h2, h3⟩ := h
 have hb : Below w.heap.size w (w.alloc (.cells #[] e)) := Below.alloc (Below.refl _ _) (Nat.le_refl _) _
 have hG : ∀ j, j < k → G j < w.heap.size := fun j hj => ((h1 j hj).2.lt (G j) rfl).2
 refine ⟨fun j => if j = k then w.heap.size else G j, fun j => if j = k then 0 else C j, fun j hj => ?_, fun i j hi hj hne => ?_, fun j hj => ?_⟩
 ·by_cases e1 : j = k
  ·subst e1
   simp only [↓reduceIte, hR, List.length_nil, List.map_nil]
   refine ⟨?_, own_set ?_ (Nat.lt_succ_self _)⟩
   ·obtain ⟨⟨v, hv⟩, _⟩ := hm j hk
    exact World.cell?_setCell_same _ _ _ (cell_later hb hv)
   ·exact ⟨rfl, .inr ⟨w.heap.size, 0, #[], rfl, hbl, heap_alloc_new w _, Nat.le_refl _, by decide, rfl, rfl⟩⟩
  ·simp only [e1, ↓reduceIte]
   obtain ⟨a1, a2⟩ := h1 j (by omega)
   refine ⟨?_, own_set (own_later hb a2) (Nat.lt_succ_self _)⟩
   exact (World.cell?_setCell_other _ _ _ _ (fun k => e1 (by injection k with _ k; exact k.symm))).trans (cell_later hb a1)
 ·by_cases e1 : i = k
  ·have e2 : ¬ j = k := by omega
   simp only [e1, e2, ↓reduceIte]
   have := hG j (by omega); omega
  ·by_cases e2 : j = k
   ·simp only [e1, e2, ↓reduceIte]
    have := hG i (by omega); omega
   ·simp only [e1, e2, ↓reduceIte]
    exact h2 i j (by omega) (by omega) hne
 ·by_cases e1 : j = k
  ·simp only [e1, ↓reduceIte]; omega
  ·simp only [e1, ↓reduceIte]; exact h3 j (by omega)
theorem Mine.lay {w : World} {b n k : Nat} {x : Value} {o : Obj} (h : Mine w b n) : Mine ((w.setCell ⟨b, k, none⟩ x).alloc o) b n := Mine.later (Below.alloc (Below.refl _ _) (Nat.le_refl _) _) (Mine.set h)
/-- A row has been appended to, and its slice laid back. -/
theorem Tb.app {w w' : World} {e : TypeId} {b k i g g' cap cap' d : Nat} {R : Nat → List Int} {x : Int} (h : Tb w e b k d R) (hi : i < k) (hbl : b < w.heap.size) (hd : d < w.heap.size)
 (hc : w.cell? ⟨b, i, none⟩ = some (.slice (some ⟨g, 0, none⟩) (R i).length cap))
 (ho : w'.ownsRow (b + 1) e 1 (.slice (some ⟨g', 0, none⟩) ((R i).length + 1) cap') ((R i).length + 1) ((R i).map (Value.int .i64) ++ [Value.int .i64 x])) (hg : w.grownBy w' (some g)) (hw : g' = g ∨ g' = w.heap.size) :
 Tb (w'.setCell ⟨b, i, none⟩ (.slice (some ⟨g', 0, none⟩) ((R i).length + 1) cap')) e b k d (fun j => if j = i then R i ++ [x] else R j) := by
 obtain ⟨G, C, h1, h2, h3⟩ := h
 have hgi : g = G i ∧ cap = C i := by
  have := (h1 i hi).1
  rw [hc] at this
  injection this with this
  injection this with e1 e2 e3
  injection e1 with e1
  injection e1 with e1
  exact ⟨e1, e3⟩
 obtain ⟨rfl, rfl⟩ := hgi
 have hG : ∀ j, j < k → b + 1 ≤ G j ∧ G j < w.heap.size := fun j hj => (h1 j hj).2.lt (G j) rfl
 refine ⟨fun j => if j = i then g' else G j, fun j => if j = i then cap' else C j, fun j hj => ?_, fun a c ha hc' hne => ?_, fun j hj => ?_⟩
 ·by_cases e1 : j = i
  ·subst e1
   simp only [↓reduceIte, List.length_append, List.length_singleton, List.map_append, List.map_cons, List.map_nil]
   refine ⟨?_, own_set ho (Nat.lt_succ_self _)⟩
   have hb1 := hG j hj
   exact World.cell?_setCell_same _ _ _ ((gcell hg b j hbl (by omega)).trans hc)
  ·simp only [e1, ↓reduceIte]
   obtain ⟨a1, a2⟩ := h1 j hj
   have hb1 := hG i hi
   refine ⟨?_, own_set (a2.kept hg (.inr ?_)) (Nat.lt_succ_self _)⟩
   ·exact (World.cell?_setCell_other _ _ _ _ (fun k => e1 (by injection k with _ k; exact k.symm))).trans ((gcell hg b j hbl (by omega)).trans a1)
   ·simp only [Value.ownBlock]
    intro e2
    exact h2 j i hj hi e1 (Option.some.inj e2)
 ·have hne2 : ∀ j, j < k → j ≠ i → g' ≠ G j := fun j hj hji e2 => by
   rcases hw with e3 | e3
   ·exact h2 j i hj hi hji (by omega)
   ·have := (hG j hj).2; omega
  by_cases e1 : a = i
  ·have e2 : ¬ c = i := by omega
   simp only [e1, e2, ↓reduceIte]
   exact hne2 c hc' e2
  ·by_cases e2 : c = i
   ·simp only [e1, e2, ↓reduceIte]
    exact (hne2 a ha e1).symm
   ·simp only [e1, e2, ↓reduceIte]
    exact h2 a c ha hc' hne
 ·by_cases e1 : j = i
  ·simp only [e1, ↓reduceIte]
   have := h3 i hi
   rcases hw with e3 | e3 <;> omega
  ·simp only [e1, ↓reduceIte]; exact h3 j hj
theorem Tb.at {w : World} {e : TypeId} {b k i d : Nat} {R : Nat → List Int} (h : Tb w e b k d R) (hi : i < k) : ∃ g cap, w.cell? ⟨b, i, none⟩ = some (.slice (some ⟨g, 0, none⟩) (R i).length cap) ∧ w.ownsRow (b + 1) e 1 (.slice (some ⟨g, 0, none⟩) (R i).length cap) (R i).length ((R i).map (Value.int .i64)) ∧ b < g ∧ g < w.heap.size ∧ g ≠ d := by
 obtain ⟨G, C, h1, _, h3⟩ := h
 exact ⟨G i, C i, (h1 i hi).1, (h1 i hi).2, ((h1 i hi).2.lt (G i) rfl).1, ((h1 i hi).2.lt (G i) rfl).2, h3 i hi⟩
/-- A table of the call's own, as the marks need it. -/
def OwT (w : World) (B : Nat) (so : Option Addr) (n : Nat) (R : Nat → List Int) : Prop :=
 n = 0 ∨ ∃ (b : Nat) (G C : Nat → Nat), so = some ⟨b, 0, none⟩ ∧ B ≤ b ∧ b < w.heap.size ∧ (∀ j, j < n → w.cell? ⟨b, j, none⟩ = some (.slice (some ⟨G j, 0, none⟩) (R j).length (C j))) ∧
  (∀ j, j < n → b < G j ∧ G j < w.heap.size ∧ ∀ q, q < (R j).length → w.cell? ⟨G j, q, none⟩ = some (.int .i64 ((R j)[q]?.getD 0)) ∧ w.frozen? ⟨G j, q, none⟩ = false) ∧ ∀ i j, i < n → j < n → i ≠ j → G i ≠ G j
theorem Tb.own {w : World} {e : TypeId} {B b n d : Nat} {R : Nat → List Int} (h : Tb w e b n d R) (hB : B ≤ b) (hb : b < w.heap.size) : OwT w B (some ⟨b, 0, none⟩) n R := by
 obtain ⟨G, C, h1, h2, _⟩ := h
 refine .inr ⟨b, G, C, rfl, hB, hb, fun j hj => (h1 j hj).1, fun j hj => ⟨((h1 j hj).2.lt (G j) rfl).1, ((h1 j hj).2.lt (G j) rfl).2, fun q hq => ?_⟩, h2⟩
 obtain ⟨_, o⟩ := h1 j hj
 have hc := o.cells (g := G j) rfl q (.int .i64 ((R j)[q]?.getD 0)) (by rw [List.getElem?_map, List.getElem?_eq_getElem hq]; rfl)
 rw [Addr.add_lit, Nat.zero_add] at hc
 exact ⟨hc, o.frozenAt q⟩
theorem OwT.later {w W : World} {B : Nat} {so : Option Addr} {n : Nat} {R : Nat → List Int} (h : OwT w B so n R) (hb : Below w.heap.size w W) : OwT W B so n R := by
 rcases h with h | ⟨b, G, C, h1, h2, h3, h4, h5, h6⟩
 ·exact .inl h
 ·exact .inr ⟨b, G, C, h1, h2, Nat.lt_of_lt_of_le h3 hb.size, fun j hj => cell_later hb (h4 j hj), fun j hj => ⟨(h5 j hj).1, Nat.lt_of_lt_of_le (h5 j hj).2.1 hb.size, fun q hq => ⟨cell_later hb ((h5 j hj).2.2 q hq).1, frozen_later hb ((h5 j hj).2.2 q hq).1 ((h5 j hj).2.2 q hq).2⟩⟩, h6⟩
theorem OwT.read {w : World} {B : Nat} {so : Option Addr} {n : Nat} {R : Nat → List Int} (h : OwT w B so n R) : RdT w so n R := by
 rcases h with rfl | ⟨b, G, C, rfl, _, _, h4, h5, _⟩
 ·exact RdT.zero _ _ _
 ·refine ⟨fun j => some ⟨G j, 0, none⟩, C, fun i hi => ⟨b, 0, rfl, fun j hj => ?_⟩, fun i hi q hq => ⟨G i, 0, rfl, fun j hj => ?_⟩⟩
  ·obtain rfl : j = 0 := by omega
   rw [Nat.zero_add, Nat.mul_one, Nat.add_zero]; exact h4 i hi
  ·obtain rfl : j = 0 := by omega
   rw [Nat.zero_add, Nat.mul_one, Nat.add_zero]; exact ((h5 i hi).2.2 q hq).1

/-- Who of the first m is told so: others than i. -/
def kcL (q : Nat → Nat → Bool) (i : Nat) : Nat → List Int
 | 0 => []
 | m + 1 => if (!(m == i) && q i m) = true then kcL q i m ++ [(m : Int)] else kcL q i m
theorem kcL_yes {q : Nat → Nat → Bool} {i m : Nat} (h1 : m ≠ i) (h2 : q i m = true) : kcL q i (m + 1) = kcL q i m ++ [(m : Int)] := by
 rw [kcL, if_pos (by rw [h2, beq_eq_false_iff_ne.2 h1]; rfl)]
theorem kcL_no {q : Nat → Nat → Bool} {i m : Nat} (h : m = i ∨ q i m = false) : kcL q i (m + 1) = kcL q i m := by
 rw [kcL, if_neg]
 rcases h with rfl | h
 ·simp
 ·rw [h]; simp
theorem kcL_len (q : Nat → Nat → Bool) (i m : Nat) : (kcL q i m).length ≤ m := by
 induction m with
 | zero => exact Nat.le_refl _
 | succ m ih =>
  rw [kcL]
  split
  ·rw [List.length_append, List.length_singleton]; omega
  ·omega
theorem new1 {W : World} {e : TypeId} {x : Value} : ∀ (j : Nat) (u : Value), [x][j]? = some u → (W.alloc (.cells #[x] e)).cell? ((⟨W.heap.size, 0, none⟩ : Addr).add j) = some u := fun j u hj => by
 match j, hj with
 | 0, hj => simp at hj; subst hj; simp [Addr.add]
theorem one1 (x : Int) : ∀ u ∈ [Value.int .i64 x], u.oneCell' = true := fun u hu => by
 simp only [List.mem_singleton] at hu; subst hu; rfl
end Go.Proofs.YtgcdgdnmcdffoaaGreatDoor
