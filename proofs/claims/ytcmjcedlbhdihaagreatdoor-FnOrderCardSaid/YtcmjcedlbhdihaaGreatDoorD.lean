/- Walks: distances, areas, turns, lengths. -/
import Derived.Test.YtcmjcedlbhdihaaGreatDoorC
import Derived.Test.YtcmjcedlbhdihaaGreatDoorPl
import Derived.StillTailTactics
import Derived.IntWalk
namespace Go.Proofs.YtcmjcedlbhdihaaGreatDoor
open Go.RowKit

theorem still_of {P : Program} {f : FuncId} {args : Array Value} {w : World} {v : Value} (h : Calls P f args w fun e w' => e = .returned v ∧ w = w') : Calls P f args w fun e w' => e = .returned v ∧ w' = w := h.mono fun _ _ h => ⟨h.1, h.2.symm⟩

theorem impl_cross (px py qx qy rx ry : Int) (h1 : Sm px) (h2 : Sm py) (h3 : Sm qx) (h4 : Sm qy) (h5 : Sm rx) (h6 : Sm ry) (w : World) :
 Calls Tryz.prog 90 #[.agg #[.int .i64 px, .int .i64 py], .agg #[.int .i64 qx, .int .i64 qy], .agg #[.int .i64 rx, .int .i64 ry]] w fun e w' => e = .returned (.int .i64 (crs px py qx qy rx ry)) ∧ Below w.heap.size w w' := by
 obtain ⟨x1, x2⟩ := sm_mul h3 h1 h6 h2
 obtain ⟨y1, y2⟩ := sm_mul h4 h2 h5 h1
 obtain ⟨a1, a2⟩ := h1
 obtain ⟨b1, b2⟩ := h2
 obtain ⟨c1, c2⟩ := h3
 obtain ⟨d1, d2⟩ := h4
 obtain ⟨e1, e2⟩ := h5
 obtain ⟨f1, f2⟩ := h6
 go_enter Tryz.func90, Tryz.ntmps90
 go_wp2
 go_ret
 exact ⟨rfl, bwz⟩
theorem impl_sign (n : Int) (w : World) :
 Calls Tryz.prog 48 #[.int .i64 n] w fun e w' => e = .returned (.int .i64 (sgn n)) ∧ w = w' := by
 go_enter Tryz.func48, Tryz.ntmps48
 go_wp2
 all_goals (go_ret; exact ⟨ret_i (by unfold sgn; (repeat' split) <;> omega), rfl⟩)
theorem impl_turn (px py qx qy rx ry : Int) (h1 : Sm px) (h2 : Sm py) (h3 : Sm qx) (h4 : Sm qy) (h5 : Sm rx) (h6 : Sm ry) (w : World) :
 Calls Tryz.prog 89 #[.agg #[.int .i64 px, .int .i64 py], .agg #[.int .i64 qx, .int .i64 qy], .agg #[.int .i64 rx, .int .i64 ry]] w fun e w' => e = .returned (.int .i64 (sgn (crs px py qx qy rx ry))) ∧ Below w.heap.size w w' := by
 go_enter Tryz.func89, Tryz.ntmps89
 go_wp2_with (first | (go_at_call 90; (with_reducible refine (impl_cross _ _ _ _ _ _ h1 h2 h3 h4 h5 h6 _).mono ?_); rintro e w9 ⟨rfl, hb⟩; obtain ⟨hc, hf⟩ := bcell hb; have hz := hb.size; have z0 : w.heap.size < w9.heap.size := (by first | omega | (simp at hz; omega)); have z1 : w.heap.size + 1 < w9.heap.size := (by first | omega | (simp at hz; omega)); have z2 : w.heap.size + 1 + 1 < w9.heap.size := (by first | omega | (simp at hz; omega))) | (go_at_call 48; (with_reducible refine (impl_sign _ _).mono ?_); rintro e w9 ⟨rfl, rfl⟩))
 go_ret
 exact ⟨rfl, bwz⟩
theorem spec_l01Minus (px py qx qy : Int) (h1 : Sm px) (h2 : Sm py) (h3 : Sm qx) (h4 : Sm qy) (w : World) :
 Calls Tryz.prog 34 #[.agg #[.int .i64 px, .int .i64 py], .agg #[.int .i64 qx, .int .i64 qy]] w fun e w' => e = .returned (.agg #[.int .i64 (px - qx), .int .i64 (py - qy)]) ∧ Below w.heap.size w w' := by
 obtain ⟨a1, a2⟩ := h1
 obtain ⟨b1, b2⟩ := h2
 obtain ⟨c1, c2⟩ := h3
 obtain ⟨d1, d2⟩ := h4
 go_enter Tryz.func34, Tryz.ntmps34
 go_wp2
 simp [bodyPost, results, Tryz.results34, go_sem, *]
 exact bwz
theorem spec_l01Turn (px py qx qy rx ry : Int) (h1 : Sm px) (h2 : Sm py) (h3 : Sm qx) (h4 : Sm qy) (h5 : Sm rx) (h6 : Sm ry) (w : World) :
 Calls Tryz.prog 96 #[.agg #[.int .i64 px, .int .i64 py], .agg #[.int .i64 qx, .int .i64 qy], .agg #[.int .i64 rx, .int .i64 ry]] w fun e w' => e = .returned (.int .i64 (sgn (crs px py qx qy rx ry))) ∧ Below w.heap.size w w' := by
 go_enter Tryz.func96, Tryz.ntmps96
 go_wp2
 go_region_held3 (fun W => W.cell? ⟨w.heap.size, 0, none⟩ = some (.int .i64 px) ∧ W.cell? ⟨w.heap.size, 1, none⟩ = some (.int .i64 py) ∧ W.cell? ⟨w.heap.size + 1, 0, none⟩ = some (.int .i64 qx) ∧ W.cell? ⟨w.heap.size + 1, 1, none⟩ = some (.int .i64 qy) ∧ W.cell? ⟨w.heap.size + 2, 0, none⟩ = some (.int .i64 rx) ∧ W.cell? ⟨w.heap.size + 2, 1, none⟩ = some (.int .i64 ry) ∧ Below w.heap.size w W ∧ w.heap.size + 3 ≤ W.heap.size)
  (first | (obtain ⟨k1, k2, k3, k4, k5, k6, kB, kz⟩ := ‹_ ∧ _›; exact ⟨cell_later hb k1, cell_later hb k2, cell_later hb k3, cell_later hb k4, cell_later hb k5, cell_later hb k6, bstep kB hb, bsize kz hb⟩) | (obtain ⟨k1, k2, k3, k4, k5, k6, kB, kz⟩ := ‹_ ∧ _›; exact ⟨k1, k2, k3, k4, k5, k6, kB, kz⟩) | (exact ⟨(by go_simp; done), (by go_simp; done), (by go_simp; done), (by go_simp; done), (by go_simp; done), (by go_simp; done), bwz, (by first | (simp; done) | (simp; omega) | omega)⟩))
   (first | (go_at_call 34; (with_reducible refine (spec_l01Minus qx qy px py h3 h4 h1 h2 _).mono ?_); rintro e w9 ⟨rfl, hb⟩; have hzz := hb.size; (try simp at hzz)) | (go_at_call 34; (with_reducible refine (spec_l01Minus rx ry px py h5 h6 h1 h2 _).mono ?_); rintro e w9 ⟨rfl, hb⟩; have hzz := hb.size; (try simp at hzz)) | (go_at_call 97; (with_reducible refine (spec_l01Cross _ _ _ _ (sm_mul h3 h1 h6 h2) (sm_mul h4 h2 h5 h1) _).mono ?_); rintro e w9 ⟨rfl, hb⟩; have hzz := hb.size; (try simp at hzz)) | (go_at_call 98; (with_reducible refine (spec_l01Sign _ _).mono ?_); rintro e w9 ⟨rfl, rfl⟩))
 obtain ⟨k1, k2, k3, k4, k5, k6, kB, kz⟩ := ‹_ ∧ _›
 go_wp2
 go_ret
 exact ⟨rfl, kB⟩
end Go.Proofs.YtcmjcedlbhdihaaGreatDoor
