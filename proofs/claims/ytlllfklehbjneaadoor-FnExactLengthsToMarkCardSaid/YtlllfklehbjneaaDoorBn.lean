/- Cells behind stores into other cells. -/
import Derived.Test.YtlllfklehbjneaaDoorBm
namespace Go.Proofs.YtlllfklehbjneaaDoor
open Go.RowKit

theorem cell_off {w : World} {p a : Addr} {x v : Value} (h : w.cell? a = some v) (n : p.block ≠ a.block ∨ p.off ≠ a.off) : (w.setCell p x).cell? a = some v :=
  (World.cell?_setCell_other w _ _ x (fun e => by rcases n with n | n <;> exact n (by rw [e]))).trans h
theorem cell_same {w : World} {p : Addr} {x v : Value} (h : w.cell? p = some v) : (w.setCell p x).cell? p = some x := World.cell?_setCell_same w _ x h
theorem size_al (w : World) (o : Obj) : (w.alloc o).heap.size = w.heap.size + 1 := by simp
end Go.Proofs.YtlllfklehbjneaaDoor
