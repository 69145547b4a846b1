/- Walks: RuleOn. -/
import Derived.Test.YtndlpoffpcpnkaaM
namespace Go.Proofs.Ytndlpoffpcpnkaa
open Go.RowKit
set_option maxHeartbeats 2000000 in
theorem impl_RuleOn (wx wy bx bY hx hy l : Int) (t : Bool) (cx cy ix iy m : Int) (u : Bool) (w : World) :
    Calls Try.prog 9 #[.agg #[.int .i64 wx, .int .i64 wy], .agg #[.int .i64 bx, .int .i64 bY, .int .i64 hx, .int .i64 hy, .int .i64 l, .bool (t)], .agg #[.int .i64 cx, .int .i64 cy, .int .i64 ix, .int .i64 iy, .int .i64 m, .bool (u)]] w fun e w' => e = .returned (.tuple #[.agg #[.int .i64 (sel (isWd wx wy && isHu bx bY hx hy l && isHu cx cy ix iy m) (rulI wx wy bx bY hx hy l t cx cy ix iy m u).1 0), .int .i64 (sel (isWd wx wy && isHu bx bY hx hy l && isHu cx cy ix iy m) (rulI wx wy bx bY hx hy l t cx cy ix iy m u).2 0)], .int .i64 (sel (isWd wx wy && isHu bx bY hx hy l && isHu cx cy ix iy m) 0 1)]) ∧ Below w.heap.size w w' := by
  rcases b4 (isWd wx wy) (isHu bx bY hx hy l) (isHu cx cy ix iy m) with g1 | ⟨g1, g2⟩ | ⟨g1, g2, g3⟩ | ⟨g1, g2, g3⟩
  all_goals
    go_enter Try.func9, Try.ntmps9
    go_wp2_with (first | (go_at_call 22; (with_reducible refine (impl_IsWind _ _ _).mono ?_); rintro e w9 ⟨rfl, hb⟩; obtain ⟨hc, hf⟩ := bcell hb; have hz := hb.size; have z0 : w.heap.size < w9.heap.size := (by first | omega | (simp at hz; omega)); have z1 : w.heap.size + 1 < w9.heap.size := (by first | omega | (simp at hz; omega)); have z2 : w.heap.size + 1 + 1 < w9.heap.size := (by first | omega | (simp at hz; omega)); have z3 : w.heap.size + 1 + 1 + 1 < w9.heap.size := (by first | omega | (simp at hz; omega))) | (go_at_call 23; (with_reducible refine (impl_areHulls _ _ _ _ _ _ _ _ _ _ _).mono ?_); rintro e w9 ⟨rfl, hb⟩; obtain ⟨hc, hf⟩ := bcell hb; have hz := hb.size; have z0 : w.heap.size < w9.heap.size := (by first | omega | (simp at hz; omega)); have z1 : w.heap.size + 1 < w9.heap.size := (by first | omega | (simp at hz; omega)); have z2 : w.heap.size + 1 + 1 < w9.heap.size := (by first | omega | (simp at hz; omega)); have z3 : w.heap.size + 1 + 1 + 1 < w9.heap.size := (by first | omega | (simp at hz; omega))) | (go_at_call 17; (with_reducible refine (impl_rule _ _ _ _ _ _ _ _ _ _ _ _ _ _ g1 g2 g3 _).mono ?_); rintro e w9 ⟨rfl, hb⟩; obtain ⟨hc, hf⟩ := bcell hb; have hz := hb.size; have z0 : w.heap.size < w9.heap.size := (by first | omega | (simp at hz; omega)); have z1 : w.heap.size + 1 < w9.heap.size := (by first | omega | (simp at hz; omega)); have z2 : w.heap.size + 1 + 1 < w9.heap.size := (by first | omega | (simp at hz; omega)); have z3 : w.heap.size + 1 + 1 + 1 < w9.heap.size := (by first | omega | (simp at hz; omega))))
    simp [bodyPost, results, Try.results9, go_sem, *]
    exact ⟨by simp [sel], bwz⟩
end Go.Proofs.Ytndlpoffpcpnkaa
