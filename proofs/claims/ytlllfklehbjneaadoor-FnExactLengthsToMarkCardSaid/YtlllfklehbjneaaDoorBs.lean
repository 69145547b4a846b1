/- Small words, second part. -/
import Derived.Test.YtlllfklehbjneaaDoorBase
import Derived.Deep.RegionHeld
namespace Go.Proofs.YtlllfklehbjneaaDoor
open Go.RowKit
theorem frozen_later {w wx : World} {a : Addr} {v : Value} (hb : Below w.heap.size w wx) (h : w.cell? a = some v) (hf : w.frozen? a = false) : wx.frozen? a = false :=
  (hb.frozen (World.block_lt_of_cell? _ _ h)).trans hf
theorem cell_alloc {w : World} {a : Addr} {v : Value} {o : Obj} (h : w.cell? a = some v) : (w.alloc o).cell? a = some v := (World.cell?_alloc_some w a o (by rw [h]; rfl)).trans h
theorem cell_realloc {w : World} {a : Addr} {v : Value} {A B : Obj} (h : a.block < w.heap.size) (k : (w.alloc A).cell? a = some v) : (w.alloc B).cell? a = some v :=
  (World.cell?_alloc_lt _ _ _ h).trans ((World.cell?_alloc_lt _ _ _ h).symm.trans k)
theorem below_realloc {w W : World} {A B : Obj} (k : Below W.heap.size W (w.alloc A)) (h : W.heap.size ≤ w.heap.size) : Below W.heap.size W (w.alloc B) :=
  ⟨k.os, k.tape, k.output, by simp; omega, fun i hi => (Below.heap_alloc w B i (by omega)).trans ((Below.heap_alloc w A i (by omega)).symm.trans (k.block i hi))⟩
end Go.Proofs.YtlllfklehbjneaaDoor
