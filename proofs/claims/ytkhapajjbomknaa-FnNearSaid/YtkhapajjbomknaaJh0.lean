/- Walks: hulls that are near. -/
import Derived.Test.YtkhapajjbomknaaJ
import Derived.Test.YtkhapajjbomknaaJs
import Derived.Test.YtkhapajjbomknaaH
import Derived.Deep.DeepCutAuto
import Derived.Test.YtkhapajjbomknaaBm
namespace Go.Proofs.Ytkhapajjbomknaa
open Go.RowKit

/-- An end of the first is near to the second. -/
def enB (ax ay bx bY cx cy dx dy d : Int) : Bool := wdB cx cy dx dy ax ay d || wdB cx cy dx dy bx bY d
set_option maxRecDepth 100000 in
set_option maxHeartbeats 4000000 in
theorem impl_endNear (ax ay bx bY cx cy dx dy d : Int) (h1 : isSg ax ay bx bY = true) (h2 : isSg cx cy dx dy = true) (h3 : inB d 0 10000 = true) (w : World) :
    Calls Try.prog 84 #[.agg #[.int .i64 ax, .int .i64 ay, .int .i64 bx, .int .i64 bY], .agg #[.int .i64 cx, .int .i64 cy, .int .i64 dx, .int .i64 dy], .int .i64 d] w fun e w' => e = .returned (.bool (enB ax ay bx bY cx cy dx dy d)) ∧ Below w.heap.size w w' := by
  have s1 := (isSg_t h1).1
  have s2 := (isSg_t h1).2.1
  clear h1
  go_enter Try.func84, Try.ntmps84
  go_wp2_with (first | (go_at_call 102; (with_reducible refine (impl_WithinDistance_ok _ _ _ _ ax ay _ h2 s1 h3 _).mono ?_); rintro e w9 ⟨rfl, hb⟩; obtain ⟨hc, hf⟩ := bcell hb; have hz := hb.size; have z0 : w.heap.size < w9.heap.size := (by first | omega | (simp at hz; omega)); have z1 : w.heap.size + 1 < w9.heap.size := (by first | omega | (simp at hz; omega))) | (go_at_call 102; (with_reducible refine (impl_WithinDistance_ok _ _ _ _ bx bY _ h2 s2 h3 _).mono ?_); rintro e w9 ⟨rfl, hb⟩; obtain ⟨hc, hf⟩ := bcell hb; have hz := hb.size; have z0 : w.heap.size < w9.heap.size := (by first | omega | (simp at hz; omega)); have z1 : w.heap.size + 1 < w9.heap.size := (by first | omega | (simp at hz; omega))))
  all_goals
    go_ret
    refine ⟨ret_b ?_, (by repeat (first | with_reducible exact Below.refl _ _ | with_reducible assumption | with_reducible refine Below.drew ?_ | with_reducible refine below_drewN ?_ _ | with_reducible refine Below.setCell ?_ (by first | exact Nat.le_refl _ | (simp; done) | (simp; omega) | (dsimp only; omega)) _ | with_reducible refine Below.alloc ?_ (by first | exact Nat.le_refl _ | (simp; done) | (simp; omega) | (simp at *; omega)) _ | with_reducible refine bstep ?_ (by assumption)))⟩
    unfold enB
    simp [*]
/-- Two segments meet, or an end of one is near to the other. -/
def nearB (ax ay bx bY cx cy dx dy d : Int) : Bool :=
  meetB ax ay bx bY cx cy dx dy || (wdB cx cy dx dy ax ay d || wdB cx cy dx dy bx bY d) || (wdB ax ay bx bY cx cy d || wdB ax ay bx bY dx dy d)
def stx (bx hx hy l : Int) : Int := stn bx hx l (rt (hx * hx + hy * hy))
def sty (bY hx hy l : Int) : Int := stn bY hy l (rt (hx * hx + hy * hy))
theorem impl_sternOf' (bx bY hx hy l : Int) (h : isHu bx bY hx hy l = true) (w : World) :
    Calls Try.prog 78 #[.agg #[.int .i64 bx, .int .i64 bY, .int .i64 hx, .int .i64 hy, .int .i64 l]] w fun e w' => e = .returned (.agg #[.int .i64 (stx bx hx hy l), .int .i64 (sty bY hx hy l)]) ∧ Below w.heap.size w w' := impl_sternOf bx bY hx hy l h w
theorem spec_l09Stern' (bx bY hx hy l : Int) (h : isHu bx bY hx hy l = true) (w : World) :
    Calls Try.prog 79 #[.agg #[.int .i64 bx, .int .i64 bY, .int .i64 hx, .int .i64 hy, .int .i64 l]] w fun e w' => e = .returned (.agg #[.int .i64 (stx bx hx hy l), .int .i64 (sty bY hx hy l)]) ∧ Below w.heap.size w w' := spec_l09Stern bx bY hx hy l h w
end Go.Proofs.Ytkhapajjbomknaa
