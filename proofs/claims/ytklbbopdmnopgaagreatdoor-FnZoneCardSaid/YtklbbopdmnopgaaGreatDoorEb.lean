/- Walks: PositionAt where the track lasts. -/
import Derived.Test.YtklbbopdmnopgaaGreatDoorTe
import Derived.Test.YtklbbopdmnopgaaGreatDoorTl
namespace Go.Proofs.YtklbbopdmnopgaaGreatDoor
open Go.RowKit

set_option maxHeartbeats 1000000 in
theorem impl_PositionAt_ok (so : Option Addr) (n cap : Nat) (T X Y : Nat → Int) (t : Int) (w : World) (h : RowAt w so n 3 (v3 T X Y)) (hv : isTr n T X Y = true) (ht : inB t (T 0) (T (n - 1)) = true) :
 Calls Tryz.prog 10 #[.agg #[.slice so n cap], .int .i64 t] w fun e w' => e = .returned (.tuple #[.agg #[.int .i64 (posX n T X t), .int .i64 (posX n T Y t)], .int .i64 0]) ∧ Below w.heap.size w w' := by
 obtain ⟨hn2, hn40, _⟩ := isTr_t hv
 obtain ⟨b, o, rfl, _⟩ := h.at3 0 (by omega)
 have KC := hide (fun W (hb : Below w.heap.size w W) => (show Calls Tryz.prog 27 #[.agg #[.slice (some ⟨b, o, none⟩) n cap], .int .i64 t] W fun e w' => e = .returned (.int .i64 0) ∧ Below W.heap.size W w' from (impl_trackCode (some ⟨b, o, none⟩) n cap T X Y t W (RowAt.later hb h) (by omega)).mono fun e w' k => ⟨by rw [k.1, hv, ht]; rfl, k.2⟩))
 have KP := hide (fun W (hb : Below w.heap.size w W) => impl_positionAt b o n cap T X Y t W (RowAt.later hb h) hv ht)
 clear h hv ht
 go_enter Tryz.func10, Tryz.ntmps10
 go_wp2_with fail; (with_reducible refine (KC.out _ bwz).mono ?_); rintro e w1 ⟨rfl, hb1⟩; obtain ⟨hc1, hf1⟩ := bcell hb1; have hz1 := hb1.size
 simp only [size_al] at hz1
 have z0 : w.heap.size < w1.heap.size := by omega
 have z1 : w.heap.size + 1 < w1.heap.size := by omega
 go_wp2_with fail; (with_reducible refine (KP.out _ bwz).mono ?_); rintro e w2 ⟨rfl, hb2⟩; obtain ⟨hc2, hf2⟩ := bcell hb2; have hz2 := hb2.size
 have z2 : w.heap.size < w2.heap.size := by omega
 have z3 : w.heap.size + 1 < w2.heap.size := by omega
 go_wp2
 simp [bodyPost, results, Tryz.results10, go_sem, *]
 all_goals exact bwz
end Go.Proofs.YtklbbopdmnopgaaGreatDoor
