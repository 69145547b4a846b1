/- Walks: the code for a course, its mark and a track; in the zone at a time; the distance to the mark. -/
import Derived.Test.YtlhllidkkjledaaGreatDoorCz
import Derived.Test.YtlhllidkkjledaaGreatDoorTf
import Derived.Test.YtlhllidkkjledaaGreatDoorTs
import Derived.Test.YtlhllidkkjledaaGreatDoorTc
import Derived.Test.YtlhllidkkjledaaGreatDoorD
namespace Go.Proofs.YtlhllidkkjledaaGreatDoor
open Go.RowKit

/-- The code: 1 not valid, 4 no such mark. -/
def mkC (co : Bool) (n : Nat) (k : Int) : Int := sel co (sel (inB k 0 ((n : Int) - 1)) 0 4) 1
def zoC (co tr : Bool) (n : Nat) (k : Int) : Int := sel (co && tr) (sel (inB k 0 ((n : Int) - 1)) 0 4) 1
theorem zoC_two (co tr : Bool) (n : Nat) (k : Int) : (zoC co tr n k = 0 ∧ co = true ∧ tr = true ∧ 0 ≤ k ∧ k ≤ (n : Int) - 1) ∨ zoC co tr n k ≠ 0 := by
  unfold zoC
  rcases b2 (co && tr) with h | h
  · rw [h]; right; show (1 : Int) ≠ 0; decide
  · rcases b2 (inB k 0 ((n : Int) - 1)) with h2 | h2
    · rw [h, h2]; right; show (4 : Int) ≠ 0; decide
    · left
      simp only [Bool.and_eq_true] at h
      rw [h.1, h.2, h2]
      simp only [inB, decide_eq_true_eq] at h2
      exact ⟨rfl, rfl, rfl, h2.1, h2.2⟩
theorem impl_markCode (ax ay bx bY cx cy dx dy : Int) (so : Option Addr) (n cap : Nat) (N : Nat → ByteArray) (X Y S Z : Nat → Int) (k : Int) (w : World) (h : RowAt w so n 5 (v5 N X Y S Z)) (hn : n ≤ 1048576) (hcap : n ≤ cap) :
    Calls Tryz.prog 105 #[.agg #[.int .i64 ax, .int .i64 ay, .int .i64 bx, .int .i64 bY, .int .i64 cx, .int .i64 cy, .int .i64 dx, .int .i64 dy, .slice so n cap], .int .i64 k] w fun e w' => e = .returned (.int .i64 (mkC (isCo ax ay bx bY cx cy dx dy n N X Y S Z) n k)) ∧ Below w.heap.size w w' := by
  obtain ⟨co, hco⟩ : ∃ b, b = (isCo ax ay bx bY cx cy dx dy n N X Y S Z) := ⟨_, rfl⟩
  have KI := hide (fun W (hb : Below w.heap.size w W) => hco ▸ impl_IsCourse ax ay bx bY cx cy dx dy so n cap N X Y S Z W (RowAt.later hb h) hn hcap)
  have we := hide (show IntKind.i64.wrap ((n : Int) - 1) = (n : Int) - 1 from IntWalk.i64_in _ (by omega))
  rw [← hco]
  clear hco h
  rcases b2 co with g1 | g1
  · subst g1
    have H := hide (show mkC false n k = 1 from rfl)
    rw [H.out]
    go_enter Tryz.func105, Tryz.ntmps105
    go_wp2_with (go_at_call 118; (with_reducible refine (KI.out _ bwz).mono ?_); rintro e w9 ⟨rfl, hb⟩; obtain ⟨hc, hf⟩ := bcell hb; have hz := hb.size; have z0 : w.heap.size < w9.heap.size := (by first | omega | (simp at hz; omega)))
    go_ret
    exact ⟨rfl, bwz⟩
  · subst g1
    rcases b2 (inB k 0 ((n : Int) - 1)) with g2 | g2
    · have H := hide (show mkC true n k = 4 by unfold mkC; rw [g2]; rfl)
      rw [H.out]
      go_enter Tryz.func105, Tryz.ntmps105
      have f1 := we.out
      go_wp2_with (first | (go_at_call 118; (with_reducible refine (KI.out _ bwz).mono ?_); rintro e w9 ⟨rfl, hb⟩; obtain ⟨hc, hf⟩ := bcell hb; have hz := hb.size; have z0 : w.heap.size < w9.heap.size := (by first | omega | (simp at hz; omega))) | (go_at_call 94; (with_reducible refine (impl_within _ _ _ _).mono ?_); rintro e w9 ⟨rfl, rfl⟩))
      go_ret
      exact ⟨rfl, bwz⟩
    · have H := hide (show mkC true n k = 0 by unfold mkC; rw [g2]; rfl)
      rw [H.out]
      go_enter Tryz.func105, Tryz.ntmps105
      have f1 := we.out
      go_wp2_with (first | (go_at_call 118; (with_reducible refine (KI.out _ bwz).mono ?_); rintro e w9 ⟨rfl, hb⟩; obtain ⟨hc, hf⟩ := bcell hb; have hz := hb.size; have z0 : w.heap.size < w9.heap.size := (by first | omega | (simp at hz; omega))) | (go_at_call 94; (with_reducible refine (impl_within _ _ _ _).mono ?_); rintro e w9 ⟨rfl, rfl⟩))
      go_ret
      exact ⟨rfl, bwz⟩
end Go.Proofs.YtlhllidkkjledaaGreatDoor
