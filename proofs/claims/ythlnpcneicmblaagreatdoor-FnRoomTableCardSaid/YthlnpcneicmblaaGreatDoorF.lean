/- Walks: the inside boat; hulls that came in. -/
import Derived.Test.YthlnpcneicmblaaGreatDoorC
namespace Go.Proofs.YthlnpcneicmblaaGreatDoor
open Go.RowKit

/-- The inside boat. -/
def insI (mx my ax ay bx bY : Int) : Int := if sq ax ay mx my < sq bx bY mx my then 1 else if sq bx bY mx my < sq ax ay mx my then 2 else 0
set_option maxHeartbeats 1000000 in
theorem impl_insideBoat (nm : ByteArray) (mx my sd zn bx bY hx hy l cx cy ix iy m : Int) (h1 : isPt mx my = true) (h2 : isHu bx bY hx hy l = true) (h3 : isHu cx cy ix iy m = true) (w : World) :
 Calls Tryz.prog 65 #[.agg #[.string nm, .int .i64 mx, .int .i64 my, .int .i64 sd, .int .i64 zn], .agg #[.int .i64 bx, .int .i64 bY, .int .i64 hx, .int .i64 hy, .int .i64 l], .agg #[.int .i64 cx, .int .i64 cy, .int .i64 ix, .int .i64 iy, .int .i64 m]] w fun e w' => e = .returned (.int .i64 (insI mx my bx bY cx cy)) ∧ Below w.heap.size w w' := by
 obtain ⟨a1, a2⟩ := pt_sm h1
 obtain ⟨b1, b2⟩ := pt_sm (isHu_t h2).1
 obtain ⟨c1, c2⟩ := pt_sm (isHu_t h3).1
 clear h1 h2 h3
 go_enter Tryz.func65, Tryz.ntmps65
 go_wp2
 go_region_held3 (fun W => W.cell? ⟨w.heap.size, 1, none⟩ = some (.int .i64 mx) ∧ W.cell? ⟨w.heap.size, 2, none⟩ = some (.int .i64 my) ∧ W.cell? ⟨w.heap.size + 1, 0, none⟩ = some (.int .i64 bx) ∧ W.cell? ⟨w.heap.size + 1, 1, none⟩ = some (.int .i64 bY) ∧ W.cell? ⟨w.heap.size + 2, 0, none⟩ = some (.int .i64 cx) ∧ W.cell? ⟨w.heap.size + 2, 1, none⟩ = some (.int .i64 cy) ∧ Below w.heap.size w W ∧ w.heap.size + 3 ≤ W.heap.size)
  (first | (obtain ⟨k1, k2, k3, k4, k5, k6, kB, kz⟩ := ‹_ ∧ _›; exact ⟨cell_later hb k1, cell_later hb k2, cell_later hb k3, cell_later hb k4, cell_later hb k5, cell_later hb k6, bstep kB hb, bsize kz hb⟩) | (obtain ⟨k1, k2, k3, k4, k5, k6, kB, kz⟩ := ‹_ ∧ _›; exact ⟨k1, k2, k3, k4, k5, k6, kB, kz⟩) | (exact ⟨(by go_simp; done), (by go_simp; done), (by go_simp; done), (by go_simp; done), (by go_simp; done), (by go_simp; done), bwz, (by first | (simp; done) | (simp; omega) | omega)⟩))
   (first | (go_at_call 91; (with_reducible refine (impl_squareDistance bx bY mx my b1 b2 a1 a2 _).mono ?_); rintro e w9 ⟨rfl, hb⟩; have hzz := hb.size; (try simp at hzz)) | (go_at_call 91; (with_reducible refine (impl_squareDistance cx cy mx my c1 c2 a1 a2 _).mono ?_); rintro e w9 ⟨rfl, hb⟩; have hzz := hb.size; (try simp at hzz)))
 obtain ⟨k1, k2, k3, k4, k5, k6, kB, kz⟩ := ‹_ ∧ _›
 go_wp2
 all_goals (go_ret; exact ⟨ret_i (by unfold insI; (repeat' split) <;> omega), kB⟩)
set_option maxHeartbeats 1000000 in
theorem spec_l11Inside (mx my bx bY hx hy l cx cy ix iy m : Int) (h1 : isPt mx my = true) (h2 : isHu bx bY hx hy l = true) (h3 : isHu cx cy ix iy m = true) (w : World) :
 Calls Tryz.prog 72 #[.agg #[.int .i64 mx, .int .i64 my], .agg #[.int .i64 bx, .int .i64 bY, .int .i64 hx, .int .i64 hy, .int .i64 l], .agg #[.int .i64 cx, .int .i64 cy, .int .i64 ix, .int .i64 iy, .int .i64 m]] w fun e w' => e = .returned (.int .i64 (insI mx my bx bY cx cy)) ∧ Below w.heap.size w w' := by
 obtain ⟨a1, a2⟩ := pt_sm h1
 obtain ⟨b1, b2⟩ := pt_sm (isHu_t h2).1
 obtain ⟨c1, c2⟩ := pt_sm (isHu_t h3).1
 clear h1 h2 h3
 go_enter Tryz.func72, Tryz.ntmps72
 go_wp2
 go_region_held3 (fun W => W.cell? ⟨w.heap.size, 0, none⟩ = some (.int .i64 mx) ∧ W.cell? ⟨w.heap.size, 1, none⟩ = some (.int .i64 my) ∧ W.cell? ⟨w.heap.size + 1, 0, none⟩ = some (.int .i64 bx) ∧ W.cell? ⟨w.heap.size + 1, 1, none⟩ = some (.int .i64 bY) ∧ W.cell? ⟨w.heap.size + 2, 0, none⟩ = some (.int .i64 cx) ∧ W.cell? ⟨w.heap.size + 2, 1, none⟩ = some (.int .i64 cy) ∧ Below w.heap.size w W ∧ w.heap.size + 3 ≤ W.heap.size)
  (first | (obtain ⟨k1, k2, k3, k4, k5, k6, kB, kz⟩ := ‹_ ∧ _›; exact ⟨cell_later hb k1, cell_later hb k2, cell_later hb k3, cell_later hb k4, cell_later hb k5, cell_later hb k6, bstep kB hb, bsize kz hb⟩) | (obtain ⟨k1, k2, k3, k4, k5, k6, kB, kz⟩ := ‹_ ∧ _›; exact ⟨k1, k2, k3, k4, k5, k6, kB, kz⟩) | (exact ⟨(by go_simp; done), (by go_simp; done), (by go_simp; done), (by go_simp; done), (by go_simp; done), (by go_simp; done), bwz, (by first | (simp; done) | (simp; omega) | omega)⟩))
   (first | (go_at_call 102; (with_reducible refine (spec_l01Square bx bY mx my b1 b2 a1 a2 _).mono ?_); rintro e w9 ⟨rfl, hb⟩; have hzz := hb.size; (try simp at hzz)) | (go_at_call 102; (with_reducible refine (spec_l01Square cx cy mx my c1 c2 a1 a2 _).mono ?_); rintro e w9 ⟨rfl, hb⟩; have hzz := hb.size; (try simp at hzz)))
 obtain ⟨k1, k2, k3, k4, k5, k6, kB, kz⟩ := ‹_ ∧ _›
 go_wp2
 all_goals (go_ret; exact ⟨ret_i (by unfold insI; (repeat' split) <;> omega), kB⟩)
end Go.Proofs.YthlnpcneicmblaaGreatDoor
