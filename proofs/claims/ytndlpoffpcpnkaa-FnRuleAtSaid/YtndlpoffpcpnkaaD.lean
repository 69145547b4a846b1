/- Walks: distances, areas, turns, lengths. -/
import Derived.Test.YtndlpoffpcpnkaaC
import Derived.Test.YtndlpoffpcpnkaaPl
import Derived.StillTailTactics
import Derived.IntWalk
namespace Go.Proofs.Ytndlpoffpcpnkaa
open Go.RowKit

theorem still_of {P : Program} {f : FuncId} {args : Array Value} {w : World} {v : Value} (h : Calls P f args w fun e w' => e = .returned v ∧ w = w') : Calls P f args w fun e w' => e = .returned v ∧ w' = w := h.mono fun _ _ h => ⟨h.1, h.2.symm⟩

theorem impl_squareDistance (px py qx qy : Int) (h1 : Sm px) (h2 : Sm py) (h3 : Sm qx) (h4 : Sm qy) (w : World) :
    Calls Try.prog 69 #[.agg #[.int .i64 px, .int .i64 py], .agg #[.int .i64 qx, .int .i64 qy]] w fun e w' => e = .returned (.int .i64 (sq px py qx qy)) ∧ Below w.heap.size w w' := by
  obtain ⟨x1, x2⟩ := sm_mul h1 h3 h1 h3
  obtain ⟨y1, y2⟩ := sm_mul h2 h4 h2 h4
  obtain ⟨a1, a2⟩ := h1
  obtain ⟨b1, b2⟩ := h2
  obtain ⟨c1, c2⟩ := h3
  obtain ⟨d1, d2⟩ := h4
  go_enter Try.func69, Try.ntmps69
  go_wp2
  go_region_held3 (fun W => W.cell? ⟨w.heap.size, 0, none⟩ = some (.int .i64 px) ∧ W.cell? ⟨w.heap.size, 1, none⟩ = some (.int .i64 py) ∧ W.cell? ⟨w.heap.size + 1, 0, none⟩ = some (.int .i64 qx) ∧ W.cell? ⟨w.heap.size + 1, 1, none⟩ = some (.int .i64 qy) ∧ Below w.heap.size w W ∧ w.heap.size + 2 ≤ W.heap.size)
    (first | (obtain ⟨k1, k2, k3, k4, kB, kz⟩ := ‹_ ∧ _›; exact ⟨cell_later hb k1, cell_later hb k2, cell_later hb k3, cell_later hb k4, bstep kB hb, bsize kz hb⟩) | (obtain ⟨k1, k2, k3, k4, kB, kz⟩ := ‹_ ∧ _›; exact ⟨k1, k2, k3, k4, kB, kz⟩) | (exact ⟨(by go_simp; done), (by go_simp; done), (by go_simp; done), (by go_simp; done), bwz, (by first | (simp; done) | (simp; omega) | omega)⟩))
     (fail)
  obtain ⟨k1, k2, k3, k4, kB, kz⟩ := ‹_ ∧ _›
  go_wp2
  go_ret
  exact ⟨rfl, kB⟩
theorem spec_l01Minus (px py qx qy : Int) (h1 : Sm px) (h2 : Sm py) (h3 : Sm qx) (h4 : Sm qy) (w : World) :
    Calls Try.prog 83 #[.agg #[.int .i64 px, .int .i64 py], .agg #[.int .i64 qx, .int .i64 qy]] w fun e w' => e = .returned (.agg #[.int .i64 (px - qx), .int .i64 (py - qy)]) ∧ Below w.heap.size w w' := by
  obtain ⟨a1, a2⟩ := h1
  obtain ⟨b1, b2⟩ := h2
  obtain ⟨c1, c2⟩ := h3
  obtain ⟨d1, d2⟩ := h4
  go_enter Try.func83, Try.ntmps83
  go_wp2
  simp [bodyPost, results, Try.results83, go_sem, *]
  exact bwz
theorem impl_lengthOf (x y : Int) (h1 : 0 ≤ x * x) (h2 : x * x ≤ 4000000000000000000) (h3 : 0 ≤ y * y) (h4 : y * y ≤ 4000000000000000000) (w : World) :
    Calls Try.prog 80 #[.agg #[.int .i64 x, .int .i64 y]] w fun e w' => e = .returned (.int .i64 (rt (x * x + y * y))) ∧ Below w.heap.size w w' := by
  go_enter Try.func80, Try.ntmps80
  go_wp2_with (go_at_call 87; (with_reducible refine (impl_rootOf _ (by omega) (by omega) _).mono ?_); rintro e w9 ⟨rfl, rfl⟩)
  go_ret
  exact ⟨rfl, bwz⟩
end Go.Proofs.Ytndlpoffpcpnkaa
