/- Small words, second part. -/
import Derived.Test.YthlnpcneicmblaaGreatDoorBase
import Derived.Deep.RegionHeld
import Derived.Laws.MakeOwn
import Derived.Laws.Entries
import Derived.OwnWalk
import Derived.WalkKit
import Derived.Maps.AppendAt
namespace Go.Proofs.YthlnpcneicmblaaGreatDoor
open Go.RowKit
theorem frozen_later {w wx : World} {a : Addr} {v : Value} (hb : Below w.heap.size w wx) (h : w.cell? a = some v) (hf : w.frozen? a = false) : wx.frozen? a = false :=
 (hb.frozen (World.block_lt_of_cell? _ _ h)).trans hf
theorem cell_alloc {w : World} {a : Addr} {v : Value} {o : Obj} (h : w.cell? a = some v) : (w.alloc o).cell? a = some v := (World.cell?_alloc_some w a o (by rw [h]; rfl)).trans h
theorem cell_realloc {w : World} {a : Addr} {v : Value} {A B : Obj} (h : a.block < w.heap.size) (k : (w.alloc A).cell? a = some v) : (w.alloc B).cell? a = some v :=
 (World.cell?_alloc_lt _ _ _ h).trans ((World.cell?_alloc_lt _ _ _ h).symm.trans k)
theorem below_realloc {w W : World} {A B : Obj} (k : Below W.heap.size W (w.alloc A)) (h : W.heap.size ≤ w.heap.size) : Below W.heap.size W (w.alloc B) :=
 ⟨k.os, k.tape, k.output, by simp; omega, fun i hi => (Below.heap_alloc w B i (by omega)).trans ((Below.heap_alloc w A i (by omega)).symm.trans (k.block i hi))⟩
/-! Words of the programs that print, their binders filled by tactics. -/
section
variable {P : Program} {ops : Array Oper} {Q : Exit → Act → World → Prop} {md : Region.Mode} {S : World → Prop}
theorem tkN (i : Nat) (d : Option Tmp) {o : Op} {t : TypeId} {p : String} {af : Array Edge} {g : Option (Nat × Bool)} {v : Value} {fuel : Nat} {listed : Array Bool} {a : Act} {w : World} (hi : ops[i]? = some ⟨d, o, t, p, af, g⟩) (h : wpAnyH P md ops Q S fuel (listed.setIfInBounds i true) (a.put d v) w)
 (hs : Region.noSelect ops = true := by kernel_rfl) (hf : Region.free md ops listed i = true := by kernel_rfl) (hr : (Region.ready md ops listed).contains i = true := by kernel_rfl) (hQ : ∀ c a w, Q (.panic c) (a.put d v) w → Q (.panic c) a w := by intro _ _ _ h; exact h)
 (hw : Region.wanted ⟨d, o, t, p, af, g⟩ (yielded ops a.tmps) = true := by kernel_rfl) (hS : S w := by assumption) (hy : ∀ W0, S W0 → (execOp a.eval ⟨d, o, t, p, af, g⟩).run P W0 = .ok (.value v) W0 := by intro W0 hSw; go_simp; (try with_reducible rfl)) : wpAnyH P md ops Q S (fuel + 1) listed a w :=
 wpAnyH_take hi hs hf hr hQ (Or.inl ⟨hw, hy⟩) hS h
theorem tkL (i : Nat) (d : Option Tmp) {o : Op} {t : TypeId} {p : String} {af : Array Edge} {g : Option (Nat × Bool)} {v : Value} {fuel : Nat} {listed : Array Bool} {a : Act} {w : World} (hi : ops[i]? = some ⟨d, o, t, p, af, g⟩) (h : wpAnyH P md ops Q S fuel (listed.setIfInBounds i true) (a.put d v) w)
 (hs : Region.noSelect ops = true := by kernel_rfl) (hf : Region.free md ops listed i = true := by kernel_rfl) (hr : (Region.ready md ops listed).contains i = true := by kernel_rfl) (hQ : ∀ c a w, Q (.panic c) (a.put d v) w → Q (.panic c) a w := by intro _ _ _ h; exact h)
 (hw : Region.wanted ⟨d, o, t, p, af, g⟩ (yielded ops a.tmps) = true := by kernel_rfl) (hS : S w := by assumption) (hy : ∀ W0, S W0 → (execOp a.eval ⟨d, o, t, p, af, g⟩).run P W0 = .ok (.value v) W0 := by intro W0 hSw; have hcS := (bcell hSw).1; go_simp; (try with_reducible rfl)) : wpAnyH P md ops Q S (fuel + 1) listed a w :=
 wpAnyH_take hi hs hf hr hQ (Or.inl ⟨hw, hy⟩) hS h
theorem tkD (i : Nat) (d : Option Tmp) {o : Op} {t : TypeId} {p : String} {af : Array Edge} {g : Option (Nat × Bool)} {v : Value} {fuel : Nat} {listed : Array Bool} {a : Act} {w : World} (hi : ops[i]? = some ⟨d, o, t, p, af, g⟩) (h : wpAnyH P md ops Q S fuel (listed.setIfInBounds i true) (a.put d v) w)
 (hs : Region.noSelect ops = true := by kernel_rfl) (hf : Region.free md ops listed i = true := by kernel_rfl) (hr : (Region.ready md ops listed).contains i = true := by kernel_rfl) (hQ : ∀ c a w, Q (.panic c) (a.put d v) w → Q (.panic c) a w := by intro _ _ _ h; exact h)
 (hw : Region.wanted ⟨d, o, t, p, af, g⟩ (yielded ops a.tmps) = true := by kernel_rfl) (hS : S w := by assumption) (hy : ∀ W0, S W0 → (execOp a.eval ⟨d, o, t, p, af, g⟩).run P W0 = .ok (.value v) W0 := by intro W0 hSw; (try dsimp only at hSw); go_simp; (try with_reducible rfl)) : wpAnyH P md ops Q S (fuel + 1) listed a w :=
 wpAnyH_take hi hs hf hr hQ (Or.inl ⟨hw, hy⟩) hS h
theorem tkO (i : Nat) (d : Option Tmp) {o : Op} {t : TypeId} {p : String} {af : Array Edge} {g : Option (Nat × Bool)} {fuel : Nat} {listed : Array Bool} {a : Act} {w : World} (hi : ops[i]? = some ⟨d, o, t, p, af, g⟩) (h : wpAnyH P md ops Q S fuel (listed.setIfInBounds i true) (a.put d undef) w)
 (hs : Region.noSelect ops = true := by kernel_rfl) (hf : Region.free md ops listed i = true := by kernel_rfl) (hr : (Region.ready md ops listed).contains i = true := by kernel_rfl) (hQ : ∀ c a w, Q (.panic c) (a.put d undef) w → Q (.panic c) a w := by intro _ _ _ h; exact h)
 (hw : Region.wanted ⟨d, o, t, p, af, g⟩ (yielded ops a.tmps) = false := by kernel_rfl) (hS : S w := by assumption) : wpAnyH P md ops Q S (fuel + 1) listed a w :=
 wpAnyH_take hi hs hf hr hQ (Or.inr ⟨hw, rfl⟩) hS h
/-- One operation alone comes up next. -/
theorem rd1 (i : Nat) (d : Option Tmp) {o : Op} {t : TypeId} {p : String} {af : Array Edge} {g : Option (Nat × Bool)} {fuel : Nat} {listed : Array Bool} {a : Act} {w : World} (hi : ops[i]? = some ⟨d, o, t, p, af, g⟩)
 (h : ∀ K' : Act → World → Prop, Shut (∀ a w, S w → (S w → wpAnyH P md ops Q S fuel (listed.setIfInBounds i true) a w) → K' a w) → if Region.wanted ⟨d, o, t, p, af, g⟩ (yielded ops a.tmps) = true then Oper.wp P ⟨d, o, t, p, af, g⟩ a w K' Q else K' (a.put d undef) w)
 (hr : Region.ready md ops listed = [i] := by kernel_rfl) : wpAnyH P md ops Q S (fuel + 1) listed a w :=
 wpAnyH_ready hr (by simp) (AllReadyH.cons hi h AllReadyH.nil)
end
/-- A cell, or its frozen mark, behind stores into other blocks; behind another alloc; the world behind a call. -/
theorem csk {A C : Prop} (k : C) (h : C → A := by intro k; first | ((repeat with_reducible refine cell_set ?_ (by dsimp only; omega)); with_reducible exact k) | (go_simp; done)) : A := h k
theorem fsk {A C : Prop} (k : C) (h : C → A := by intro k; first | ((repeat rw [World.frozen?_setCell]); with_reducible exact k) | (go_simp; done)) : A := h k
theorem crk {A C : Prop} (k : C) (h : C → A := by intro k; with_reducible refine cell_realloc ?_ k; dsimp only; omega) : A := h k
theorem frk {A C : Prop} (k : C) (h : C → A := by intro k; with_reducible refine frozen_realloc ?_ k; dsimp only; omega) : A := h k
theorem hhz {A : Prop} (h : A := by first | exact bstep hHeld hb | exact hHeld.trans hb | exact hHeld) : A := h
end Go.Proofs.YthlnpcneicmblaaGreatDoor
/- Slices of structs, as the contracts speak of them. -/
namespace Go.Proofs.YthlnpcneicmblaaGreatDoor
open Go.RowKit

/-- The slice at 'so' has n elements of c cells each; cell j of element i holds V i j. -/
def RowAt (W : World) (so : Option Addr) (n c : Nat) (V : Nat → Nat → Value) : Prop :=
 ∀ i, i < n → ∃ b o, so = some ⟨b, o, none⟩ ∧ ∀ j, j < c → W.cell? ⟨b, o + i * c + j, none⟩ = some (V i j)
theorem RowAt.later {w wx : World} {so : Option Addr} {n c : Nat} {V : Nat → Nat → Value} (hb : Below w.heap.size w wx) (h : RowAt w so n c V) : RowAt wx so n c V := fun i hi => by
 obtain ⟨b, o, e, k⟩ := h i hi
 exact ⟨b, o, e, fun j hj => (hb.cell (World.block_lt_of_cell? _ _ (k j hj))).trans (k j hj)⟩
/-- Two numbers. -/
def v2 (X Y : Nat → Int) (i j : Nat) : Value := .int .i64 (if j = 0 then X i else Y i)
/-- Three numbers. -/
def v3 (T X Y : Nat → Int) (i j : Nat) : Value := .int .i64 (if j = 0 then T i else if j = 1 then X i else Y i)
theorem RowAt.at2 {w : World} {so : Option Addr} {n : Nat} {X Y : Nat → Int} (h : RowAt w so n 2 (v2 X Y)) (i : Nat) (hi : i < n) :
 ∃ b o, so = some ⟨b, o, none⟩ ∧ b < w.heap.size ∧ w.cell? ⟨b, o + i * 2, none⟩ = some (.int .i64 (X i)) ∧ w.cell? ⟨b, o + i * 2 + 1, none⟩ = some (.int .i64 (Y i)) := by
 obtain ⟨b, o, e, k⟩ := h i hi
 have k0 := k 0 (by omega)
 have k1 := k 1 (by omega)
 exact ⟨b, o, e, World.block_lt_of_cell? _ _ k0, by simpa [v2] using k0, by simpa [v2] using k1⟩
theorem RowAt.at3 {w : World} {so : Option Addr} {n : Nat} {T X Y : Nat → Int} (h : RowAt w so n 3 (v3 T X Y)) (i : Nat) (hi : i < n) :
 ∃ b o, so = some ⟨b, o, none⟩ ∧ b < w.heap.size ∧ w.cell? ⟨b, o + i * 3, none⟩ = some (.int .i64 (T i)) ∧ w.cell? ⟨b, o + i * 3 + 1, none⟩ = some (.int .i64 (X i)) ∧ w.cell? ⟨b, o + i * 3 + 2, none⟩ = some (.int .i64 (Y i)) := by
 obtain ⟨b, o, e, k⟩ := h i hi
 have k0 := k 0 (by omega)
 have k1 := k 1 (by omega)
 have k2 := k 2 (by omega)
 exact ⟨b, o, e, World.block_lt_of_cell? _ _ k0, by simpa [v3] using k0, by simpa [v3] using k1, by simpa [v3] using k2⟩
theorem RowAt.on2 {w : World} {b o n : Nat} {X Y : Nat → Int} (h : RowAt w (some ⟨b, o, none⟩) n 2 (v2 X Y)) (i : Nat) (hi : i < n) :
 w.cell? ⟨b, o + i * 2, none⟩ = some (.int .i64 (X i)) ∧ w.cell? ⟨b, o + i * 2 + 1, none⟩ = some (.int .i64 (Y i)) := by
 obtain ⟨b', o', e, _, k0, k1⟩ := h.at2 i hi
 simp only [Option.some.injEq, Addr.mk.injEq, and_true] at e
 obtain ⟨rfl, rfl⟩ := e
 exact ⟨k0, k1⟩
theorem RowAt.on3 {w : World} {b o n : Nat} {T X Y : Nat → Int} (h : RowAt w (some ⟨b, o, none⟩) n 3 (v3 T X Y)) (i : Nat) (hi : i < n) :
 w.cell? ⟨b, o + i * 3, none⟩ = some (.int .i64 (T i)) ∧ w.cell? ⟨b, o + i * 3 + 1, none⟩ = some (.int .i64 (X i)) ∧ w.cell? ⟨b, o + i * 3 + 2, none⟩ = some (.int .i64 (Y i)) := by
 obtain ⟨b', o', e, _, k0, k1, k2⟩ := h.at3 i hi
 simp only [Option.some.injEq, Addr.mk.injEq, and_true] at e
 obtain ⟨rfl, rfl⟩ := e
 exact ⟨k0, k1, k2⟩
/-- A row of the call's own: each of its m cells is there, and none is frozen. -/
def Mine (W : World) (h m : Nat) : Prop := ∀ j, j < m → (∃ v, W.cell? ⟨h, j, none⟩ = some v) ∧ W.frozen? ⟨h, j, none⟩ = false
theorem Mine.later {w wx : World} {h m : Nat} (hb : Below w.heap.size w wx) (k : Mine w h m) : Mine wx h m := fun j hj => by
 obtain ⟨⟨v, e⟩, f⟩ := k j hj
 exact ⟨⟨v, (hb.cell (World.block_lt_of_cell? _ _ e)).trans e⟩, frozen_later hb e f⟩
theorem Mine.set {w : World} {h m : Nat} {p : Addr} {x : Value} (k : Mine w h m) : Mine (w.setCell p x) h m := fun j hj => by
 obtain ⟨⟨v, e⟩, f⟩ := k j hj
 exact ⟨cell?_setCell_some e, by rw [World.frozen?_setCell]; exact f⟩
theorem Mine.cells {w : World} {h m : Nat} (k : Mine w h m) (j : Nat) (hj : j < m) : ∃ v, w.cell? ⟨h, j, none⟩ = some v ∧ w.frozen? ⟨h, j, none⟩ = false := by
 obtain ⟨⟨v, e⟩, f⟩ := k j hj
 exact ⟨v, e, f⟩
theorem mine_make {w : World} {c : Array Value} {t : TypeId} {m : Nat} (h : c.size = m) : Mine (w.alloc (.cells c t)) w.heap.size m := fun j hj => by
 refine ⟨⟨c[j]'(by omega), ?_⟩, by rw [World.frozen?_alloc_new]⟩
 rw [World.cell?_alloc_new]
 exact Array.getElem?_eq_getElem (by omega)
theorem set_row {w : World} {h p q : Nat} {x v : Value} (hq : w.cell? ⟨h, q, none⟩ = some v) : (w.setCell ⟨h, p, none⟩ x).cell? ⟨h, q, none⟩ = some (if p = q then x else v) := by
 by_cases e : p = q
 ·subst e; rw [if_pos rfl]; exact World.cell?_setCell_same w _ x hq
 ·rw [if_neg e]; exact (World.cell?_setCell_other w _ _ x (fun e' => e (by injection e'))).trans hq
theorem row_own {w : World} {h n c : Nat} {V : Nat → Nat → Value} (r : RowAt w (some ⟨h, 0, none⟩) n c V) {i j : Nat} (hi : i < n) (hj : j < c) : w.cell? ⟨h, i * c + j, none⟩ = some (V i j) := by
 obtain ⟨b, o, e, k⟩ := r i hi
 simp only [Option.some.injEq, Addr.mk.injEq, and_true] at e
 obtain ⟨rfl, rfl⟩ := e
 simpa using k j hj
theorem own_row {w : World} {h n c : Nat} {V : Nat → Nat → Value} (r : ∀ i, i < n → ∀ j, j < c → w.cell? ⟨h, i * c + j, none⟩ = some (V i j)) : RowAt w (some ⟨h, 0, none⟩) n c V := fun i hi =>
 ⟨h, 0, rfl, fun j hj => by have := r i hi j hj; rwa [Nat.zero_add]⟩
theorem fill3 {w : World} {h n k : Nat} {T X Y : Nat → Int} (m : Mine w h (n * 3)) (r : RowAt w (some ⟨h, 0, none⟩) k 3 (v3 T X Y)) (hk : k < n) :
 RowAt (((w.setCell ⟨h, k * 3, none⟩ (.int .i64 (T k))).setCell ⟨h, k * 3 + 1, none⟩ (.int .i64 (X k))).setCell ⟨h, k * 3 + 2, none⟩ (.int .i64 (Y k))) (some ⟨h, 0, none⟩) (k + 1) 3 (v3 T X Y) := by
 refine own_row fun i hi j hj => ?_
 by_cases e : i < k
 ·refine (set_row (set_row (set_row (row_own r e hj)))).trans (congrArg some ?_)
  rw [if_neg (by omega), if_neg (by omega), if_neg (by omega)]
 ·obtain rfl : i = k := by omega
  obtain ⟨⟨v, hv⟩, _⟩ := m (i * 3 + j) (by omega)
  refine (set_row (set_row (set_row hv))).trans (congrArg some ?_)
  rcases (by omega : j = 0 ∨ j = 1 ∨ j = 2) with rfl | rfl | rfl
  ·rw [if_neg (by omega), if_neg (by omega), if_pos (by omega)]; simp [v3]
  ·rw [if_neg (by omega), if_pos (by omega)]; simp [v3]
  ·rw [if_pos (by omega)]; simp [v3]
theorem fill2 {w : World} {h n k : Nat} {X Y : Nat → Int} (m : Mine w h (n * 2)) (r : RowAt w (some ⟨h, 0, none⟩) k 2 (v2 X Y)) (hk : k < n) :
 RowAt ((w.setCell ⟨h, k * 2, none⟩ (.int .i64 (X k))).setCell ⟨h, k * 2 + 1, none⟩ (.int .i64 (Y k))) (some ⟨h, 0, none⟩) (k + 1) 2 (v2 X Y) := by
 refine own_row fun i hi j hj => ?_
 by_cases e : i < k
 ·refine (set_row (set_row (row_own r e hj))).trans (congrArg some ?_)
  rw [if_neg (by omega), if_neg (by omega)]
 ·obtain rfl : i = k := by omega
  obtain ⟨⟨v, hv⟩, _⟩ := m (i * 2 + j) (by omega)
  refine (set_row (set_row hv)).trans (congrArg some ?_)
  rcases (by omega : j = 0 ∨ j = 1) with rfl | rfl
  ·rw [if_neg (by omega), if_pos (by omega)]; simp [v2]
  ·rw [if_pos (by omega)]; simp [v2]
theorem row_zero (w : World) (so : Option Addr) (c : Nat) (V : Nat → Nat → Value) : RowAt w so 0 c V := fun i hi => absurd hi (Nat.not_lt_zero i)
theorem run_make_rowN {P : Program} (t e : TypeId) (i : TypeInfo) (z : Value) (ht : P.underlying t = some (.slice e)) (hi : P.info? e = some i) (hz : i.zero = some z)
 (n : Nat) (hbytes : i.bytes * n ≤ 281474976710656) (h63 : n ≤ 9223372036854775807) (w : World) :
 (Instr.makeSlice t (.int .i64 (n : Int)) (.int .i64 (n : Int))).run P w = .ok (.slice (some ⟨w.heap.size, 0, none⟩) n n) (w.alloc (.cells (madeCells z.cells (n * i.size)) e)) := by
 have hb : (i.bytes : Int) * (n : Int) ≤ 281474976710656 := by
  have h : ((i.bytes * n : Nat) : Int) ≤ 281474976710656 := by omega
  rwa [Int.natCast_mul] at h
 have hr := run_make (P := P) w t e i z ht hi hz .i64 .i64 n n (by omega) (by omega) hb (by omega)
 simp only [Int.toNat_natCast] at hr
 exact hr
end Go.Proofs.YthlnpcneicmblaaGreatDoor
/- Cells of the call's own, as a drawn region carries them. -/
namespace Go.Proofs.YthlnpcneicmblaaGreatDoor
open Go.RowKit

theorem zc_of {w8 w9 : World} {B : Nat} (hb : Below B w8 w9) : ∀ b, b < w8.heap.size → b < w9.heap.size := fun _ h => Nat.lt_of_lt_of_le h hb.size
theorem alloc_lt {w W : World} {o : Obj} {B : Nat} (_ : Below B w (W.alloc o)) : W.heap.size < (W.alloc o).heap.size := by simp
theorem alloc_lt2 {w W : World} {o : Obj} {B g : Nat} (_ : Below B w (W.alloc o).drew) (h : W.heap.size = g) : g < (W.alloc o).drew.heap.size := by
 subst h; show W.heap.size < (W.alloc o).heap.size; simp
theorem frozen_alloc {w : World} {a : Addr} {v : Value} {o : Obj} (h : w.cell? a = some v) (f : w.frozen? a = false) : (w.alloc o).frozen? a = false :=
 (World.frozen?_alloc_old _ _ _ (Nat.ne_of_lt (World.block_lt_of_cell? _ _ h))).trans f
theorem frozen_realloc {w : World} {a : Addr} {A B : Obj} (h : a.block < w.heap.size) (k : (w.alloc A).frozen? a = false) : (w.alloc B).frozen? a = false :=
 (World.frozen?_alloc_old _ _ _ (Nat.ne_of_lt h)).trans ((World.frozen?_alloc_old _ _ _ (Nat.ne_of_lt h)).symm.trans k)
theorem cell_set {w : World} {p a : Addr} {x v : Value} (h : w.cell? a = some v) (n : p.block ≠ a.block) : (w.setCell p x).cell? a = some v :=
 (World.cell?_setCell_other w _ _ x (fun e => n (by rw [e]))).trans h
theorem bstep2 {w wA W : World} (h : Below w.heap.size w wA) (k : Below wA.heap.size wA W) : Below w.heap.size w W := h.trans (k.mono h.size)
end Go.Proofs.YthlnpcneicmblaaGreatDoor
/- Cells behind stores into other cells. -/
namespace Go.Proofs.YthlnpcneicmblaaGreatDoor
open Go.RowKit

theorem cell_off {w : World} {p a : Addr} {x v : Value} (h : w.cell? a = some v) (n : p.block ≠ a.block ∨ p.off ≠ a.off) : (w.setCell p x).cell? a = some v :=
 (World.cell?_setCell_other w _ _ x (fun e => by rcases n with n | n <;> exact n (by rw [e]))).trans h
theorem cell_same {w : World} {p : Addr} {x v : Value} (h : w.cell? p = some v) : (w.setCell p x).cell? p = some x := World.cell?_setCell_same w _ x h
theorem size_al (w : World) (o : Obj) : (w.alloc o).heap.size = w.heap.size + 1 := by simp
theorem csz {w : World} {p : Addr} {v : Value} (h : w.cell? p = some v := by first | ((repeat with_reducible refine cell_off ?_ (by first | (right; dsimp only; omega) | (left; dsimp only; omega) | (left; simp; omega))); with_reducible refine cell_same (v := .int .i64 0) ?_; (repeat with_reducible refine cell_off ?_ (by first | (right; dsimp only; omega) | (left; dsimp only; omega) | (left; simp; omega))); go_simp; done) | (go_simp; done)) : w.cell? p = some v := h
end Go.Proofs.YthlnpcneicmblaaGreatDoor
/- Rows that the call owns, over worlds. -/
namespace Go.Proofs.YthlnpcneicmblaaGreatDoor
open Go.RowKit

theorem own_later {w wx : World} {B : Nat} {e : TypeId} {size : Nat} {v : Value} {n : Nat} {xs : List Value} (hb : Below w.heap.size w wx) (h : w.ownsRow B e size v n xs) : wx.ownsRow B e size v n xs :=
 h.kept (row := none) ⟨hb.os, hb.tape, hb.output, hb.size, fun k hk _ => hb.block k hk⟩ (by
  rcases h.2 with ⟨rfl, _⟩ | ⟨g, cap, cur, rfl, _⟩
  ·exact .inl rfl
  ·exact .inr (by simp [Value.ownBlock]))
theorem own_grown {w w1 : World} {B : Nat} {e : TypeId} {size : Nat} {v : Value} {n : Nat} {xs : List Value} (h : w.ownsRow B e size v n xs) (hB : B ≤ w.heap.size) (hg : w.grownBy w1 v.ownBlock) : Below B w w1 :=
 Below.grown (Below.refl _ _) hg hB fun k hk => (h.lt k hk).1
theorem below_grown {w w1 : World} {x : Obj} {B : Nat} {e : TypeId} {size : Nat} {v : Value} {n : Nat} {xs : List Value} (h : w.ownsRow B e size v n xs) (hB : B ≤ w.heap.size) (hg : (w.alloc x).grownBy w1 v.ownBlock) : Below B w w1 :=
 (Below.alloc (Below.refl _ _) hB _).trans (own_grown (h.alloc x) (by simp; omega) hg)
theorem cell_below {w wx : World} {B b o : Nat} {v : Value} (hb : Below B w wx) (h : b < B) (hc : w.cell? ⟨b, o, none⟩ = some v) : wx.cell? ⟨b, o, none⟩ = some v := ((bcell hb).1 b o h).trans hc
theorem new2 {W : World} {e : TypeId} {x y : Value} : ∀ (j : Nat) (u : Value), [x, y][j]? = some u → (W.alloc (.cells #[x, y] e)).cell? ((⟨W.heap.size, 0, none⟩ : Addr).add j) = some u := fun j u hj => by
 match j, hj with
 | 0, hj => simp at hj; subst hj; simp [Addr.add]
 | 1, hj => simp at hj; subst hj; simp [Addr.add]
theorem one2 (a b : Int) : ∀ u ∈ [Value.int .i64 a, Value.int .i64 b], u.oneCell' = true := fun u hu => by
 simp at hu; rcases hu with rfl | rfl <;> rfl
end Go.Proofs.YthlnpcneicmblaaGreatDoor
/- Plain: a course in a box. -/
namespace Go.Proofs.YthlnpcneicmblaaGreatDoor
open Go.RowKit
/-- The course's cells in block b. -/
def CoAt (W : World) (b : Nat) (ax ay bx bY cx cy dx dy : Int) (so : Option Addr) (n cap : Nat) : Prop := W.cell? ⟨b, 0, none⟩ = some (.int .i64 ax) ∧ W.cell? ⟨b, 1, none⟩ = some (.int .i64 ay) ∧ W.cell? ⟨b, 2, none⟩ = some (.int .i64 bx) ∧ W.cell? ⟨b, 3, none⟩ = some (.int .i64 bY) ∧ W.cell? ⟨b, 4, none⟩ = some (.int .i64 cx) ∧ W.cell? ⟨b, 5, none⟩ = some (.int .i64 cy) ∧ W.cell? ⟨b, 6, none⟩ = some (.int .i64 dx) ∧ W.cell? ⟨b, 7, none⟩ = some (.int .i64 dy) ∧ W.cell? ⟨b, 8, none⟩ = some (.slice so n cap)
theorem CoAt.later {w W : World} {b : Nat} {ax ay bx bY cx cy dx dy : Int} {so : Option Addr} {n cap : Nat} (hb : Below w.heap.size w W) (h : CoAt w b ax ay bx bY cx cy dx dy so n cap) : CoAt W b ax ay bx bY cx cy dx dy so n cap := by
 obtain ⟨h0, h1, h2, h3, h4, h5, h6, h7, h8⟩ := h
 exact ⟨cell_later hb h0, cell_later hb h1, cell_later hb h2, cell_later hb h3, cell_later hb h4, cell_later hb h5, cell_later hb h6, cell_later hb h7, cell_later hb h8⟩
end Go.Proofs.YthlnpcneicmblaaGreatDoor
