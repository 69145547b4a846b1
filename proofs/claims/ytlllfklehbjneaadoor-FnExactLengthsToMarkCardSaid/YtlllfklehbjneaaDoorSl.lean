/- Slices of structs, as the contracts speak of them. -/
import Derived.Test.YtlllfklehbjneaaDoorBs
import Derived.Laws.MakeOwn
import Derived.Laws.Entries
import Derived.OwnWalk
namespace Go.Proofs.YtlllfklehbjneaaDoor
open Go.RowKit

/-- The slice at 'so' has n elements of c cells each; cell j of element i holds V i j. -/
def RowAt (W : World) (so : Option Addr) (n c : Nat) (V : Nat → Nat → Value) : Prop :=
  ∀ i, i < n → ∃ b o, so = some ⟨b, o, none⟩ ∧ ∀ j, j < c → W.cell? ⟨b, o + i * c + j, none⟩ = some (V i j)
theorem RowAt.later {w wx : World} {so : Option Addr} {n c : Nat} {V : Nat → Nat → Value} (hb : Below w.heap.size w wx) (h : RowAt w so n c V) : RowAt wx so n c V := fun i hi => by
  obtain ⟨b, o, e, k⟩ := h i hi
  exact ⟨b, o, e, fun j hj => (hb.cell (World.block_lt_of_cell? _ _ (k j hj))).trans (k j hj)⟩
/-- Two numbers. -/
def v2 (X Y : Nat → Int) (i j : Nat) : Value := .int .i64 (if j = 0 then X i else Y i)
/-- Three numbers. -/
def v3 (T X Y : Nat → Int) (i j : Nat) : Value := .int .i64 (if j = 0 then T i else if j = 1 then X i else Y i)
theorem RowAt.at2 {w : World} {so : Option Addr} {n : Nat} {X Y : Nat → Int} (h : RowAt w so n 2 (v2 X Y)) (i : Nat) (hi : i < n) :
    ∃ b o, so = some ⟨b, o, none⟩ ∧ b < w.heap.size ∧ w.cell? ⟨b, o + i * 2, none⟩ = some (.int .i64 (X i)) ∧ w.cell? ⟨b, o + i * 2 + 1, none⟩ = some (.int .i64 (Y i)) := by
  obtain ⟨b, o, e, k⟩ := h i hi
  have k0 := k 0 (by omega)
  have k1 := k 1 (by omega)
  exact ⟨b, o, e, World.block_lt_of_cell? _ _ k0, by simpa [v2] using k0, by simpa [v2] using k1⟩
theorem RowAt.at3 {w : World} {so : Option Addr} {n : Nat} {T X Y : Nat → Int} (h : RowAt w so n 3 (v3 T X Y)) (i : Nat) (hi : i < n) :
    ∃ b o, so = some ⟨b, o, none⟩ ∧ b < w.heap.size ∧ w.cell? ⟨b, o + i * 3, none⟩ = some (.int .i64 (T i)) ∧ w.cell? ⟨b, o + i * 3 + 1, none⟩ = some (.int .i64 (X i)) ∧ w.cell? ⟨b, o + i * 3 + 2, none⟩ = some (.int .i64 (Y i)) := by
  obtain ⟨b, o, e, k⟩ := h i hi
  have k0 := k 0 (by omega)
  have k1 := k 1 (by omega)
  have k2 := k 2 (by omega)
  exact ⟨b, o, e, World.block_lt_of_cell? _ _ k0, by simpa [v3] using k0, by simpa [v3] using k1, by simpa [v3] using k2⟩
theorem RowAt.on2 {w : World} {b o n : Nat} {X Y : Nat → Int} (h : RowAt w (some ⟨b, o, none⟩) n 2 (v2 X Y)) (i : Nat) (hi : i < n) :
    w.cell? ⟨b, o + i * 2, none⟩ = some (.int .i64 (X i)) ∧ w.cell? ⟨b, o + i * 2 + 1, none⟩ = some (.int .i64 (Y i)) := by
  obtain ⟨b', o', e, _, k0, k1⟩ := h.at2 i hi
  simp only [Option.some.injEq, Addr.mk.injEq, and_true] at e
  obtain ⟨rfl, rfl⟩ := e
  exact ⟨k0, k1⟩
theorem RowAt.on3 {w : World} {b o n : Nat} {T X Y : Nat → Int} (h : RowAt w (some ⟨b, o, none⟩) n 3 (v3 T X Y)) (i : Nat) (hi : i < n) :
    w.cell? ⟨b, o + i * 3, none⟩ = some (.int .i64 (T i)) ∧ w.cell? ⟨b, o + i * 3 + 1, none⟩ = some (.int .i64 (X i)) ∧ w.cell? ⟨b, o + i * 3 + 2, none⟩ = some (.int .i64 (Y i)) := by
  obtain ⟨b', o', e, _, k0, k1, k2⟩ := h.at3 i hi
  simp only [Option.some.injEq, Addr.mk.injEq, and_true] at e
  obtain ⟨rfl, rfl⟩ := e
  exact ⟨k0, k1, k2⟩
/-- A row of the call's own: each of its m cells is there, and none is frozen. -/
def Mine (W : World) (h m : Nat) : Prop := ∀ j, j < m → (∃ v, W.cell? ⟨h, j, none⟩ = some v) ∧ W.frozen? ⟨h, j, none⟩ = false
theorem Mine.later {w wx : World} {h m : Nat} (hb : Below w.heap.size w wx) (k : Mine w h m) : Mine wx h m := fun j hj => by
  obtain ⟨⟨v, e⟩, f⟩ := k j hj
  exact ⟨⟨v, (hb.cell (World.block_lt_of_cell? _ _ e)).trans e⟩, frozen_later hb e f⟩
theorem Mine.set {w : World} {h m : Nat} {p : Addr} {x : Value} (k : Mine w h m) : Mine (w.setCell p x) h m := fun j hj => by
  obtain ⟨⟨v, e⟩, f⟩ := k j hj
  exact ⟨cell?_setCell_some e, by rw [World.frozen?_setCell]; exact f⟩
theorem Mine.cells {w : World} {h m : Nat} (k : Mine w h m) (j : Nat) (hj : j < m) : ∃ v, w.cell? ⟨h, j, none⟩ = some v ∧ w.frozen? ⟨h, j, none⟩ = false := by
  obtain ⟨⟨v, e⟩, f⟩ := k j hj
  exact ⟨v, e, f⟩
theorem mine_make {w : World} {c : Array Value} {t : TypeId} {m : Nat} (h : c.size = m) : Mine (w.alloc (.cells c t)) w.heap.size m := fun j hj => by
  refine ⟨⟨c[j]'(by omega), ?_⟩, by rw [World.frozen?_alloc_new]⟩
  rw [World.cell?_alloc_new]
  exact Array.getElem?_eq_getElem (by omega)
theorem set_row {w : World} {h p q : Nat} {x v : Value} (hq : w.cell? ⟨h, q, none⟩ = some v) : (w.setCell ⟨h, p, none⟩ x).cell? ⟨h, q, none⟩ = some (if p = q then x else v) := by
  by_cases e : p = q
  · subst e; rw [if_pos rfl]; exact World.cell?_setCell_same w _ x hq
  · rw [if_neg e]; exact (World.cell?_setCell_other w _ _ x (fun e' => e (by injection e'))).trans hq
theorem row_own {w : World} {h n c : Nat} {V : Nat → Nat → Value} (r : RowAt w (some ⟨h, 0, none⟩) n c V) {i j : Nat} (hi : i < n) (hj : j < c) : w.cell? ⟨h, i * c + j, none⟩ = some (V i j) := by
  obtain ⟨b, o, e, k⟩ := r i hi
  simp only [Option.some.injEq, Addr.mk.injEq, and_true] at e
  obtain ⟨rfl, rfl⟩ := e
  simpa using k j hj
theorem own_row {w : World} {h n c : Nat} {V : Nat → Nat → Value} (r : ∀ i, i < n → ∀ j, j < c → w.cell? ⟨h, i * c + j, none⟩ = some (V i j)) : RowAt w (some ⟨h, 0, none⟩) n c V := fun i hi =>
  ⟨h, 0, rfl, fun j hj => by have := r i hi j hj; rwa [Nat.zero_add]⟩
theorem fill3 {w : World} {h n k : Nat} {T X Y : Nat → Int} (m : Mine w h (n * 3)) (r : RowAt w (some ⟨h, 0, none⟩) k 3 (v3 T X Y)) (hk : k < n) :
    RowAt (((w.setCell ⟨h, k * 3, none⟩ (.int .i64 (T k))).setCell ⟨h, k * 3 + 1, none⟩ (.int .i64 (X k))).setCell ⟨h, k * 3 + 2, none⟩ (.int .i64 (Y k))) (some ⟨h, 0, none⟩) (k + 1) 3 (v3 T X Y) := by
  refine own_row fun i hi j hj => ?_
  by_cases e : i < k
  · refine (set_row (set_row (set_row (row_own r e hj)))).trans (congrArg some ?_)
    rw [if_neg (by omega), if_neg (by omega), if_neg (by omega)]
  · obtain rfl : i = k := by omega
    obtain ⟨⟨v, hv⟩, _⟩ := m (i * 3 + j) (by omega)
    refine (set_row (set_row (set_row hv))).trans (congrArg some ?_)
    rcases (by omega : j = 0 ∨ j = 1 ∨ j = 2) with rfl | rfl | rfl
    · rw [if_neg (by omega), if_neg (by omega), if_pos (by omega)]; simp [v3]
    · rw [if_neg (by omega), if_pos (by omega)]; simp [v3]
    · rw [if_pos (by omega)]; simp [v3]
theorem fill2 {w : World} {h n k : Nat} {X Y : Nat → Int} (m : Mine w h (n * 2)) (r : RowAt w (some ⟨h, 0, none⟩) k 2 (v2 X Y)) (hk : k < n) :
    RowAt ((w.setCell ⟨h, k * 2, none⟩ (.int .i64 (X k))).setCell ⟨h, k * 2 + 1, none⟩ (.int .i64 (Y k))) (some ⟨h, 0, none⟩) (k + 1) 2 (v2 X Y) := by
  refine own_row fun i hi j hj => ?_
  by_cases e : i < k
  · refine (set_row (set_row (row_own r e hj))).trans (congrArg some ?_)
    rw [if_neg (by omega), if_neg (by omega)]
  · obtain rfl : i = k := by omega
    obtain ⟨⟨v, hv⟩, _⟩ := m (i * 2 + j) (by omega)
    refine (set_row (set_row hv)).trans (congrArg some ?_)
    rcases (by omega : j = 0 ∨ j = 1) with rfl | rfl
    · rw [if_neg (by omega), if_pos (by omega)]; simp [v2]
    · rw [if_pos (by omega)]; simp [v2]
theorem row_zero (w : World) (so : Option Addr) (c : Nat) (V : Nat → Nat → Value) : RowAt w so 0 c V := fun i hi => absurd hi (Nat.not_lt_zero i)
theorem run_make_rowN {P : Program} (t e : TypeId) (i : TypeInfo) (z : Value) (ht : P.underlying t = some (.slice e)) (hi : P.info? e = some i) (hz : i.zero = some z)
    (n : Nat) (hbytes : i.bytes * n ≤ 281474976710656) (h63 : n ≤ 9223372036854775807) (w : World) :
    (Instr.makeSlice t (.int .i64 (n : Int)) (.int .i64 (n : Int))).run P w = .ok (.slice (some ⟨w.heap.size, 0, none⟩) n n) (w.alloc (.cells (madeCells z.cells (n * i.size)) e)) := by
  have hb : (i.bytes : Int) * (n : Int) ≤ 281474976710656 := by
    have h : ((i.bytes * n : Nat) : Int) ≤ 281474976710656 := by omega
    rwa [Int.natCast_mul] at h
  have hr := run_make (P := P) w t e i z ht hi hz .i64 .i64 n n (by omega) (by omega) hb (by omega)
  simp only [Int.toNat_natCast] at hr
  exact hr
end Go.Proofs.YtlllfklehbjneaaDoor
