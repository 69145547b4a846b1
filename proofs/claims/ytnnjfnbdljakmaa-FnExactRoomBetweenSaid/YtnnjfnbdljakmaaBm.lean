/- Cells of the call's own, as a drawn region carries them. -/
import Derived.Test.YtnnjfnbdljakmaaBs
namespace Go.Proofs.Ytnnjfnbdljakmaa
open Go.RowKit

theorem zc_of {w8 w9 : World} {B : Nat} (hb : Below B w8 w9) : ∀ b, b < w8.heap.size → b < w9.heap.size := fun _ h => Nat.lt_of_lt_of_le h hb.size
theorem alloc_lt {w W : World} {o : Obj} {B : Nat} (_ : Below B w (W.alloc o)) : W.heap.size < (W.alloc o).heap.size := by simp
theorem alloc_lt2 {w W : World} {o : Obj} {B g : Nat} (_ : Below B w (W.alloc o).drew) (h : W.heap.size = g) : g < (W.alloc o).drew.heap.size := by
  subst h; show W.heap.size < (W.alloc o).heap.size; simp
end Go.Proofs.Ytnnjfnbdljakmaa
