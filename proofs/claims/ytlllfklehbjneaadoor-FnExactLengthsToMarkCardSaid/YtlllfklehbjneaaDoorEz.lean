/- Plain: a course in a box. -/
import Derived.Test.YtlllfklehbjneaaDoorSl
namespace Go.Proofs.YtlllfklehbjneaaDoor
open Go.RowKit
/-- The course's cells in block b. -/
def CoAt (W : World) (b : Nat) (ax ay bx bY cx cy dx dy : Int) (so : Option Addr) (n cap : Nat) : Prop := W.cell? ⟨b, 0, none⟩ = some (.int .i64 ax) ∧ W.cell? ⟨b, 1, none⟩ = some (.int .i64 ay) ∧ W.cell? ⟨b, 2, none⟩ = some (.int .i64 bx) ∧ W.cell? ⟨b, 3, none⟩ = some (.int .i64 bY) ∧ W.cell? ⟨b, 4, none⟩ = some (.int .i64 cx) ∧ W.cell? ⟨b, 5, none⟩ = some (.int .i64 cy) ∧ W.cell? ⟨b, 6, none⟩ = some (.int .i64 dx) ∧ W.cell? ⟨b, 7, none⟩ = some (.int .i64 dy) ∧ W.cell? ⟨b, 8, none⟩ = some (.slice so n cap)
theorem CoAt.later {w W : World} {b : Nat} {ax ay bx bY cx cy dx dy : Int} {so : Option Addr} {n cap : Nat} (hb : Below w.heap.size w W) (h : CoAt w b ax ay bx bY cx cy dx dy so n cap) : CoAt W b ax ay bx bY cx cy dx dy so n cap := by
  obtain ⟨h0, h1, h2, h3, h4, h5, h6, h7, h8⟩ := h
  exact ⟨cell_later hb h0, cell_later hb h1, cell_later hb h2, cell_later hb h3, cell_later hb h4, cell_later hb h5, cell_later hb h6, cell_later hb h7, cell_later hb h8⟩
end Go.Proofs.YtlllfklehbjneaaDoor
