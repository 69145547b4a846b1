/- Walks: distances, areas, turns, lengths. -/
import Derived.Test.YtklbbopdmnopgaaGreatDoorC
import Derived.Test.YtklbbopdmnopgaaGreatDoorPl
import Derived.StillTailTactics
import Derived.IntWalk
namespace Go.Proofs.YtklbbopdmnopgaaGreatDoor
open Go.RowKit

theorem still_of {P : Program} {f : FuncId} {args : Array Value} {w : World} {v : Value} (h : Calls P f args w fun e w' => e = .returned v ∧ w = w') : Calls P f args w fun e w' => e = .returned v ∧ w' = w := h.mono fun _ _ h => ⟨h.1, h.2.symm⟩

theorem impl_squareDistance (px py qx qy : Int) (h1 : Sm px) (h2 : Sm py) (h3 : Sm qx) (h4 : Sm qy) (w : World) :
 Calls Tryz.prog 19 #[.agg #[.int .i64 px, .int .i64 py], .agg #[.int .i64 qx, .int .i64 qy]] w fun e w' => e = .returned (.int .i64 (sq px py qx qy)) ∧ Below w.heap.size w w' := by
 obtain ⟨x1, x2⟩ := sm_mul h1 h3 h1 h3
 obtain ⟨y1, y2⟩ := sm_mul h2 h4 h2 h4
 obtain ⟨a1, a2⟩ := h1
 obtain ⟨b1, b2⟩ := h2
 obtain ⟨c1, c2⟩ := h3
 obtain ⟨d1, d2⟩ := h4
 go_enter Tryz.func19, Tryz.ntmps19
 go_wp2
 go_region_held3 (fun W => W.cell? ⟨w.heap.size, 0, none⟩ = some (.int .i64 px) ∧ W.cell? ⟨w.heap.size, 1, none⟩ = some (.int .i64 py) ∧ W.cell? ⟨w.heap.size + 1, 0, none⟩ = some (.int .i64 qx) ∧ W.cell? ⟨w.heap.size + 1, 1, none⟩ = some (.int .i64 qy) ∧ Below w.heap.size w W ∧ w.heap.size + 2 ≤ W.heap.size)
  (first | (obtain ⟨k1, k2, k3, k4, kB, kz⟩ := ‹_ ∧ _›; exact ⟨cell_later hb k1, cell_later hb k2, cell_later hb k3, cell_later hb k4, bstep kB hb, bsize kz hb⟩) | (obtain ⟨k1, k2, k3, k4, kB, kz⟩ := ‹_ ∧ _›; exact ⟨k1, k2, k3, k4, kB, kz⟩) | (exact ⟨(by go_simp; done), (by go_simp; done), (by go_simp; done), (by go_simp; done), bwz, (by first | (simp; done) | (simp; omega) | omega)⟩))
   (fail)
 obtain ⟨k1, k2, k3, k4, kB, kz⟩ := ‹_ ∧ _›
 go_wp2
 go_ret
 exact ⟨rfl, kB⟩
theorem impl_cross (px py qx qy rx ry : Int) (h1 : Sm px) (h2 : Sm py) (h3 : Sm qx) (h4 : Sm qy) (h5 : Sm rx) (h6 : Sm ry) (w : World) :
 Calls Tryz.prog 70 #[.agg #[.int .i64 px, .int .i64 py], .agg #[.int .i64 qx, .int .i64 qy], .agg #[.int .i64 rx, .int .i64 ry]] w fun e w' => e = .returned (.int .i64 (crs px py qx qy rx ry)) ∧ Below w.heap.size w w' := by
 obtain ⟨x1, x2⟩ := sm_mul h3 h1 h6 h2
 obtain ⟨y1, y2⟩ := sm_mul h4 h2 h5 h1
 obtain ⟨a1, a2⟩ := h1
 obtain ⟨b1, b2⟩ := h2
 obtain ⟨c1, c2⟩ := h3
 obtain ⟨d1, d2⟩ := h4
 obtain ⟨e1, e2⟩ := h5
 obtain ⟨f1, f2⟩ := h6
 go_enter Tryz.func70, Tryz.ntmps70
 go_wp2
 go_ret
 exact ⟨rfl, bwz⟩
theorem spec_l01Minus (px py qx qy : Int) (h1 : Sm px) (h2 : Sm py) (h3 : Sm qx) (h4 : Sm qy) (w : World) :
 Calls Tryz.prog 44 #[.agg #[.int .i64 px, .int .i64 py], .agg #[.int .i64 qx, .int .i64 qy]] w fun e w' => e = .returned (.agg #[.int .i64 (px - qx), .int .i64 (py - qy)]) ∧ Below w.heap.size w w' := by
 obtain ⟨a1, a2⟩ := h1
 obtain ⟨b1, b2⟩ := h2
 obtain ⟨c1, c2⟩ := h3
 obtain ⟨d1, d2⟩ := h4
 go_enter Tryz.func44, Tryz.ntmps44
 go_wp2
 simp [bodyPost, results, Tryz.results44, go_sem, *]
 exact bwz
theorem spec_l01Square (px py qx qy : Int) (h1 : Sm px) (h2 : Sm py) (h3 : Sm qx) (h4 : Sm qy) (w : World) :
 Calls Tryz.prog 23 #[.agg #[.int .i64 px, .int .i64 py], .agg #[.int .i64 qx, .int .i64 qy]] w fun e w' => e = .returned (.int .i64 (sq px py qx qy)) ∧ Below w.heap.size w w' := by
 go_enter Tryz.func23, Tryz.ntmps23
 go_wp2
 go_region_held3 (fun W => W.cell? ⟨w.heap.size, 0, none⟩ = some (.int .i64 px) ∧ W.cell? ⟨w.heap.size, 1, none⟩ = some (.int .i64 py) ∧ W.cell? ⟨w.heap.size + 1, 0, none⟩ = some (.int .i64 qx) ∧ W.cell? ⟨w.heap.size + 1, 1, none⟩ = some (.int .i64 qy) ∧ Below w.heap.size w W ∧ w.heap.size + 2 ≤ W.heap.size)
  (first | (obtain ⟨k1, k2, k3, k4, kB, kz⟩ := ‹_ ∧ _›; exact ⟨cell_later hb k1, cell_later hb k2, cell_later hb k3, cell_later hb k4, bstep kB hb, bsize kz hb⟩) | (obtain ⟨k1, k2, k3, k4, kB, kz⟩ := ‹_ ∧ _›; exact ⟨k1, k2, k3, k4, kB, kz⟩) | (exact ⟨(by go_simp; done), (by go_simp; done), (by go_simp; done), (by go_simp; done), bwz, (by first | (simp; done) | (simp; omega) | omega)⟩))
   (first | (go_at_call 44; (with_reducible refine (spec_l01Minus _ _ _ _ h1 h2 h3 h4 _).mono ?_); rintro e w9 ⟨rfl, hb⟩; have hzz := hb.size; (try simp at hzz)) | (go_at_call 43; (with_reducible refine (spec_l01Dot _ _ _ _ (sm_mul h1 h3 h1 h3) (sm_mul h2 h4 h2 h4) _).mono ?_); rintro e w9 ⟨rfl, hb⟩; have hzz := hb.size; (try simp at hzz)))
 obtain ⟨k1, k2, k3, k4, kB, kz⟩ := ‹_ ∧ _›
 go_wp2
 go_ret
 exact ⟨rfl, kB⟩
end Go.Proofs.YtklbbopdmnopgaaGreatDoor
