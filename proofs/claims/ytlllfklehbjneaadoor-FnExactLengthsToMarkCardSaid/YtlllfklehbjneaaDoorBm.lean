/- Cells of the call's own, as a drawn region carries them. -/
import Derived.Test.YtlllfklehbjneaaDoorBs
namespace Go.Proofs.YtlllfklehbjneaaDoor
open Go.RowKit

theorem zc_of {w8 w9 : World} {B : Nat} (hb : Below B w8 w9) : ∀ b, b < w8.heap.size → b < w9.heap.size := fun _ h => Nat.lt_of_lt_of_le h hb.size
theorem alloc_lt {w W : World} {o : Obj} {B : Nat} (_ : Below B w (W.alloc o)) : W.heap.size < (W.alloc o).heap.size := by simp
theorem alloc_lt2 {w W : World} {o : Obj} {B g : Nat} (_ : Below B w (W.alloc o).drew) (h : W.heap.size = g) : g < (W.alloc o).drew.heap.size := by
  subst h; show W.heap.size < (W.alloc o).heap.size; simp
theorem frozen_alloc {w : World} {a : Addr} {v : Value} {o : Obj} (h : w.cell? a = some v) (f : w.frozen? a = false) : (w.alloc o).frozen? a = false :=
  (World.frozen?_alloc_old _ _ _ (Nat.ne_of_lt (World.block_lt_of_cell? _ _ h))).trans f
theorem frozen_realloc {w : World} {a : Addr} {A B : Obj} (h : a.block < w.heap.size) (k : (w.alloc A).frozen? a = false) : (w.alloc B).frozen? a = false :=
  (World.frozen?_alloc_old _ _ _ (Nat.ne_of_lt h)).trans ((World.frozen?_alloc_old _ _ _ (Nat.ne_of_lt h)).symm.trans k)
theorem cell_set {w : World} {p a : Addr} {x v : Value} (h : w.cell? a = some v) (n : p.block ≠ a.block) : (w.setCell p x).cell? a = some v :=
  (World.cell?_setCell_other w _ _ x (fun e => n (by rw [e]))).trans h
theorem bstep2 {w wA W : World} (h : Below w.heap.size w wA) (k : Below wA.heap.size wA W) : Below w.heap.size w W := h.trans (k.mono h.size)
end Go.Proofs.YtlllfklehbjneaaDoor
