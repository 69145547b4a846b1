/- The source of draws: where it lies, and what leaves it in order; what a region of draws has gathered. -/
import Derived.Test.YtnmnibpcklcmgaaIv
import Derived.Test.YtnmnibpcklcmgaaSl
import Derived.Test.YtnmnibpcklcmgaaBn
import Derived.Maps.AppendAt
namespace Go.Proofs.Ytnmnibpcklcmgaa
open Go.RowKit

/-- A row of bytes. -/
def vb (B : Nat → Int) (i _j : Nat) : Value := .int .u8 (B i)
/-- Block g holds a source: its code lies in an elder block. -/
def Src (W : World) (g : Nat) : Prop :=
  ∃ (so : Option Addr) (n cap : Nat) (B : Nat → Int) (a : Nat) (sd : Int), n ≤ 1048576 ∧ RowAt W so n 1 (vb B) ∧ (∀ i, 0 ≤ B i ∧ B i ≤ 255) ∧ (∀ b o, so = some ⟨b, o, none⟩ → 0 < n → b < g) ∧ a ≤ n ∧ 0 ≤ sd ∧ sd < 2147483647 ∧
    W.cell? ⟨g, 0, none⟩ = some (.slice so n cap) ∧ W.cell? ⟨g, 1, none⟩ = some (.int .i64 a) ∧ W.cell? ⟨g, 2, none⟩ = some (.int .i64 sd) ∧ W.frozen? ⟨g, 1, none⟩ = false ∧ W.frozen? ⟨g, 2, none⟩ = false
theorem Src.lt {W : World} {g : Nat} (h : Src W g) : g < W.heap.size := by
  obtain ⟨_, _, _, _, _, _, _, _, _, _, _, _, _, h, _⟩ := h
  exact World.block_lt_of_cell? _ _ h
theorem Src.keep {W W' : World} {g : Nat} (hb : Below W.heap.size W W') (h : Src W g) : Src W' g := by
  obtain ⟨so, n, cap, B, a, sd, h0, h1, h2, h3, h4, h5, h6, c0, c1, c2, f1, f2⟩ := h
  exact ⟨so, n, cap, B, a, sd, h0, h1.later hb, h2, h3, h4, h5, h6, cell_later hb c0, cell_later hb c1, cell_later hb c2, frozen_later hb c1 f1, frozen_later hb c2 f2⟩
theorem Src.alloc {W : World} {g : Nat} (h : Src W g) (o : Obj) : Src (W.alloc o) g := h.keep (Below.alloc (Below.refl _ _) (Nat.le_refl _) _)
theorem row_far {W : World} {so : Option Addr} {n c : Nat} {V : Nat → Nat → Value} {p : Addr} {x : Value} (r : RowAt W so n c V) (h : ∀ b o, so = some ⟨b, o, none⟩ → 0 < n → b ≠ p.block) : RowAt (W.setCell p x) so n c V := fun i hi => by
  obtain ⟨b, o, e, k⟩ := r i hi
  exact ⟨b, o, e, fun j hj => cell_set (k j hj) (h b o e (by omega)).symm⟩
theorem Src.set {W : World} {g : Nat} {p : Addr} {x : Value} (hp : g < p.block) (h : Src W g) : Src (W.setCell p x) g := by
  obtain ⟨so, n, cap, B, a, sd, h0, h1, h2, h3, h4, h5, h6, c0, c1, c2, f1, f2⟩ := h
  have hn : p.block ≠ g := Nat.ne_of_gt hp
  exact ⟨so, n, cap, B, a, sd, h0, row_far h1 (fun b o e e2 => Nat.ne_of_lt (Nat.lt_trans (h3 b o e e2) hp)), h2, h3, h4, h5, h6, cell_set c0 hn, cell_set c1 hn, cell_set c2 hn, (World.frozen?_setCell _ _ _ _).trans f1, (World.frozen?_setCell _ _ _ _).trans f2⟩
theorem gr_set {w W : World} {g j : Nat} {x : Value} (h : w.grownBy W (some g)) : w.grownBy (W.setCell ⟨g, j, none⟩ x) (some g) :=
  h.trans ⟨rfl, rfl, rfl, by simp [World.setCell], fun k _ hk => Below.heap_setCell _ _ _ k (fun e => hk (by rw [e]))⟩
theorem gr_drewN {w W : World} {r : Option Nat} (h : w.grownBy W r) (n : Nat) : w.grownBy (W.drewN n) r := ⟨h.os, h.tape, h.output, h.size, h.block⟩
theorem Src.drewN {W : World} {g : Nat} (h : Src W g) (n : Nat) : Src (W.drewN n) g := h
theorem Src.seed {W : World} {g : Nat} {x : Int} (h : Src W g) (h1 : 0 ≤ x) (h2 : x < 2147483647) : Src (W.setCell ⟨g, 2, none⟩ (.int .i64 x)) g := by
  obtain ⟨so, n, cap, B, a, sd, h0, hr, hB, h3, h4, _, _, c0, c1, c2, f1, f2⟩ := h
  exact ⟨so, n, cap, B, a, x, h0, row_far hr (fun b o e e2 => Nat.ne_of_lt (h3 b o e e2)), hB, h3, h4, h1, h2, cell_off c0 (.inr (by simp)), cell_off c1 (.inr (by simp)), cell_same c2, (World.frozen?_setCell _ _ _ _).trans f1, (World.frozen?_setCell _ _ _ _).trans f2⟩
theorem Src.at {W : World} {g : Nat} {x : Int} {so : Option Addr} {n cap : Nat} (h : Src W g) (hc : W.cell? ⟨g, 0, none⟩ = some (.slice so n cap)) (h1 : 0 ≤ x) (h2 : x ≤ n) : Src (W.setCell ⟨g, 1, none⟩ (.int .i64 x)) g := by
  obtain ⟨so', n', cap', B, a, sd, h0, hr, hB, h3, h4, h5, h6, c0, c1, c2, f1, f2⟩ := h
  rw [hc] at c0
  injection c0 with c0
  injection c0 with e1 e2 e3
  subst e1 e2 e3
  obtain ⟨m, rfl⟩ := Int.eq_ofNat_of_zero_le h1
  exact ⟨so, n, cap, B, m, sd, h0, row_far hr (fun b o e e2 => Nat.ne_of_lt (h3 b o e e2)), hB, h3, by omega, h5, h6, cell_off hc (.inr (by simp)), cell_same c1, cell_off c2 (.inr (by simp)), (World.frozen?_setCell _ _ _ _).trans f1, (World.frozen?_setCell _ _ _ _).trans f2⟩
/-- What a draw leaves of the world: all but the source's own block, and the source in order. -/
def Dr (w : World) (g : Nat) (w' : World) : Prop := w.grownBy w' (some g) ∧ Src w' g
theorem Dr.first {W : World} {g : Nat} (h : Src W g) : World.grownBy W W.drew (some g) ∧ Src W.drew g := ⟨⟨rfl, rfl, rfl, Nat.le_refl _, fun _ _ _ => rfl⟩, h⟩
theorem Dr.step {w W W' : World} {g : Nat} (h : w.grownBy W (some g) ∧ Src W g) (hg : W.grownBy W' (some g)) (hs : Src W' g) : w.grownBy W' (some g) ∧ Src W' g := ⟨h.1.trans hg, hs⟩
theorem grown_new {w W : World} {r : Option Nat} {p : Addr} {x : Value} (h : w.grownBy W r) (hp : w.heap.size ≤ p.block) : w.grownBy (W.setCell p x) r :=
  ⟨h.os, h.tape, h.output, by simpa [World.setCell] using h.size, fun k hk hr => (Below.heap_setCell _ _ _ k (fun e => by omega)).trans (h.block k hk hr)⟩
theorem Dr.sets {w W : World} {g : Nat} {p : Addr} {x : Value} (h : w.grownBy W (some g) ∧ Src W g) (hp : w.heap.size ≤ p.block) (hq : g < p.block) : w.grownBy (W.setCell p x) (some g) ∧ Src (W.setCell p x) g :=
  ⟨grown_new h.1 hp, h.2.set hq⟩
theorem gcell {w W : World} {g : Nat} (h : w.grownBy W (some g)) : ∀ b o, b < w.heap.size → ¬ b = g → W.cell? ⟨b, o, none⟩ = w.cell? ⟨b, o, none⟩ := fun b o hb hn =>
  World.cell?_of_block (h.block b hb (fun e => hn (Option.some.inj e)))
theorem gfroz {w W : World} {g : Nat} (h : w.grownBy W (some g)) : ∀ b o, b < w.heap.size → ¬ b = g → W.frozen? ⟨b, o, none⟩ = w.frozen? ⟨b, o, none⟩ := fun b o hb hn =>
  World.frozen?_of_block (h.block b hb (fun e => hn (Option.some.inj e)))
theorem grown_below {w W : World} {r : Option Nat} (h : Below w.heap.size w W) : w.grownBy W r := ⟨h.os, h.tape, h.output, h.size, fun k hk _ => h.block k hk⟩
theorem below_grown' {w W : World} {B g : Nat} (h : w.grownBy W (some g)) (hB : B ≤ w.heap.size) (hg : B ≤ g) : Below B w W :=
  Below.grown (Below.refl _ _) h hB (fun k hk => by simp at hk; omega)
theorem gr_drew {w W : World} {r : Option Nat} (h : w.grownBy W r) : w.grownBy W.drew r := ⟨h.os, h.tape, h.output, h.size, h.block⟩
theorem gr_alloc {w W : World} {r : Option Nat} (h : w.grownBy W r) (o : Obj) : w.grownBy (W.alloc o) r := h.trans (World.grownBy_alloc W o r)
theorem gr_step {w W W' : World} {r : Option Nat} (h : w.grownBy W r) (k : W.grownBy W' r) : w.grownBy W' r := h.trans k
theorem gr_new {w W : World} {r : Option Nat} {p : Addr} {x : Value} (h : w.grownBy W r) (hp : w.heap.size ≤ p.block) : w.grownBy (W.setCell p x) r := grown_new h hp
theorem cell_grown {w W : World} {g b o : Nat} {v : Value} (hg : w.grownBy W (some g)) (hn : b ≠ g) (h : w.cell? ⟨b, o, none⟩ = some v) : W.cell? ⟨b, o, none⟩ = some v :=
  (gcell hg b o (World.block_lt_of_cell? _ _ h) hn).trans h
theorem Shut.go3 {K' : Act → World → Prop} {Jp : Value → World → Prop} {X : Value → Act} {W W' : World} {g : Nat} {a' : Act} {v : Value} (hK : Shut (∀ v W', Jp v W' → K' (X v) W')) (e : X v = a')
    (hg : W.grownBy W' (some g)) (hs : Src W' g) (h : W.grownBy W' (some g) → Src W' g → Jp v W') : K' a' W' := e ▸ hK.out v W' (h hg hs)

/-! What has been gathered in a temporary. -/
def FInt (v : Value) : Prop := ∃ x : Int, v = .int .i64 x
def FBool (v : Value) : Prop := ∃ x : Bool, v = .bool x
def FStr (v : Value) : Prop := ∃ x : ByteArray, v = .string x
def FNat (k : Nat) (v : Value) : Prop := ∃ x : Nat, v = .int .i64 (x : Int) ∧ x < k
def FAgg2 (v : Value) : Prop := ∃ a b : Int, v = .agg #[.int .i64 a, .int .i64 b]
def FAgg5 (v : Value) : Prop := ∃ a b c d e : Int, v = .agg #[.int .i64 a, .int .i64 b, .int .i64 c, .int .i64 d, .int .i64 e]
def FMark (v : Value) : Prop := ∃ (s : ByteArray) (a b c d : Int), v = .agg #[.string s, .int .i64 a, .int .i64 b, .int .i64 c, .int .i64 d]
def FRow (g k : Nat) (v : Value) (W : World) : Prop := ∃ b, v = .slice (some ⟨b, 0, none⟩) k k ∧ b ≠ g ∧ b < W.heap.size ∧ ∀ j, j < k → ∃ z : Int, W.cell? ⟨b, j, none⟩ = some (.int .i64 z)
def FAddr (g : Nat) (v : Value) (W : World) : Prop := ∃ b o, v = .pointer (some ⟨b, o, none⟩) ∧ b ≠ g ∧ b < W.heap.size ∧ ∃ z : Int, W.cell? ⟨b, o, none⟩ = some (.int .i64 z)
def FBox (g : Nat) (w : World) (k : Nat) (v : Value) (W : World) : Prop := ∃ b, v = .pointer (some ⟨b, 0, none⟩) ∧ g < b ∧ w.heap.size ≤ b ∧ b < W.heap.size ∧ ∀ j, j < k → (∃ z, W.cell? ⟨b, j, none⟩ = some z) ∧ W.frozen? ⟨b, j, none⟩ = false
theorem FRow.later {g k : Nat} {v : Value} {W W' : World} (hg : W.grownBy W' (some g)) (h : FRow g k v W) : FRow g k v W' := by
  obtain ⟨b, e, h1, h2, h3⟩ := h
  exact ⟨b, e, h1, Nat.lt_of_lt_of_le h2 hg.size, fun j hj => by obtain ⟨z, hz⟩ := h3 j hj; exact ⟨z, (gcell hg b j h2 h1).trans hz⟩⟩
theorem FAddr.later {g : Nat} {v : Value} {W W' : World} (hg : W.grownBy W' (some g)) (h : FAddr g v W) : FAddr g v W' := by
  obtain ⟨b, o, e, h1, h2, z, hz⟩ := h
  exact ⟨b, o, e, h1, Nat.lt_of_lt_of_le h2 hg.size, z, (gcell hg b o h2 h1).trans hz⟩
theorem FBox.later {g k : Nat} {w : World} {v : Value} {W W' : World} (hg : W.grownBy W' (some g)) (h : FBox g w k v W) : FBox g w k v W' := by
  obtain ⟨b, e, h1, h2, h3, h4⟩ := h
  refine ⟨b, e, h1, h2, Nat.lt_of_lt_of_le h3 hg.size, fun j hj => ?_⟩
  obtain ⟨⟨z, hz⟩, hf⟩ := h4 j hj
  exact ⟨⟨z, (gcell hg b j h3 (by omega)).trans hz⟩, (gfroz hg b j h3 (by omega)).trans hf⟩
theorem FRow.new {g k : Nat} {W : World} (h : g < W.heap.size) (c : Array Value) (t : TypeId) (hc : ∀ j, j < k → ∃ z : Int, c[j]? = some (.int .i64 z)) : FRow g k (.slice (some ⟨W.heap.size, 0, none⟩) k k) (W.alloc (.cells c t)) :=
  ⟨W.heap.size, rfl, by omega, by simp, fun j hj => by rw [World.cell?_alloc_new]; exact hc j hj⟩
theorem FAddr.new {g b o : Nat} {W : World} (h1 : b ≠ g) (h2 : b < W.heap.size) (h3 : ∃ z : Int, W.cell? ⟨b, o, none⟩ = some (.int .i64 z)) : FAddr g (.pointer (some ⟨b, o, none⟩)) W := ⟨b, o, rfl, h1, h2, h3⟩
theorem FBox.new {g k : Nat} {w W : World} (h : g < W.heap.size) (hw : w.heap.size ≤ W.heap.size) (c : Array Value) (t : TypeId) (hc : c.size = k) : FBox g w k (.pointer (some ⟨W.heap.size, 0, none⟩)) (W.alloc (.cells c t)) :=
  ⟨W.heap.size, rfl, h, hw, by simp, fun j hj => ⟨⟨c[j]'(by omega), by rw [World.cell?_alloc_new]; exact Array.getElem?_eq_getElem (by omega)⟩, by rw [World.frozen?_alloc_new]⟩⟩
theorem FBox.ne_new {g k : Nat} {w W : World} {v : Value} (h : FBox g w k v W) : Value.pointer (some ⟨W.heap.size, 0, none⟩) ≠ v := by
  obtain ⟨b, e, _, _, h3, _⟩ := h
  rw [e]
  intro k
  have k2 := Option.some.inj (Value.pointer.inj k)
  have k3 := congrArg Addr.block k2
  simp only at k3
  omega
end Go.Proofs.Ytnmnibpcklcmgaa
