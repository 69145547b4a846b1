/- FnTack holds: the opposite heading is on the other tack, and upwind exactly if the heading is downwind; for every code. No condition. -/
import Derived.Test.YtkhapajjbomknaaDt
import Derived.Test.YtkhapajjbomknaaB
import Derived.Test.YtkhapajjbomknaaLaw
import Derived.Test.YtkhapajjbomknaaLb
namespace Go.Proofs.Ytkhapajjbomknaa
open Go.ChangeShapes Go.WideShapes Go.ChangeAt Go.RowKit

theorem neg_mul' (a b : Int) : -a * b = -(a * b) := Int.neg_mul a b
theorem tack_back (wx wy x y : Int) : (tackI wx wy x y = 0 ∧ tackI wx wy (-x) (-y) = 0) ∨ (tackI wx wy x y = 1 ∧ tackI wx wy (-x) (-y) = 2) ∨ (tackI wx wy x y = 2 ∧ tackI wx wy (-x) (-y) = 1) := by
  unfold tackI
  rw [neg_mul', neg_mul']
  generalize x * wy = p
  generalize y * wx = q
  (repeat' split) <;> first | omega | simp | (exfalso; omega)
theorem absI_neg (c : Int) : absI (-c) = absI c := by unfold absI; (repeat' split) <;> omega
theorem sail_back (wx wy x y : Int) : sailI wx wy x y + sailI wx wy (-x) (-y) = 4 := by
  unfold sailI
  rw [neg_mul', neg_mul', neg_mul', neg_mul', show -(x * wy) - -(y * wx) = -(x * wy - y * wx) by omega, absI_neg, show -(x * wx) + -(y * wy) = -(x * wx + y * wy) by omega]
  have := absI_bd (n := x * wy - y * wx) (b := absI (x * wy - y * wx)) (by unfold absI; split <;> omega) (by unfold absI; split <;> omega)
  generalize absI (x * wy - y * wx) = p at *
  generalize x * wx + y * wy = q
  (repeat' split) <;> first | omega | (exfalso; omega)
theorem hd_back {x y : Int} (h : isHd x y = true) : isHd (-x) (-y) = true := by
  obtain ⟨a1, a2, a3, a4, a5⟩ := isHd_t h
  simp [isHd, inB]
  omega
set_option maxRecDepth 100000 in
set_option maxHeartbeats 8000000 in
theorem laws_FnTack (so : Option Addr) (n cap : Nat) (B : Nat → Int) (w : World) (hl : n ≤ maxLen) (h : RowAt w so n 1 (vb B)) (hB : ∀ i, 0 ≤ B i ∧ B i ≤ 255) :
    Calls Try.prog 3 #[.slice so n cap] w fun e w' => e = .returned (.bool true) ∧ Below w.heap.size w w' := by
  unfold maxLen at hl
  by_cases hn : 4096 < n
  · have Hd := hide (decide_eq_true hn)
    go_enter Try.func3, Try.ntmps3
    go_wp2_with (go_at_call 10; (with_reducible refine (laws_big _ _ _ _ (by omega)).mono ?_); rintro e w9 ⟨rfl, rfl⟩; rw [Hd.out])
    go_ret
    exact ⟨rfl, (by repeat (first | with_reducible exact Below.refl _ _ | with_reducible assumption | with_reducible refine Below.drew ?_ | with_reducible refine below_drewN ?_ _ | with_reducible refine Below.setCell ?_ (by first | exact Nat.le_refl _ | (simp; done) | (simp; omega) | (dsimp only; omega)) _ | with_reducible refine Below.alloc ?_ (by first | exact Nat.le_refl _ | (simp; done) | (simp; omega) | (simp at *; omega)) _ | with_reducible refine bstep ?_ (by assumption)))⟩
  have Hd := hide (decide_eq_false hn)
  go_enter Try.func3, Try.ntmps3
  go_wp2_with fail; (with_reducible refine (laws_big _ _ _ _ (by omega)).mono ?_); rintro e w0 ⟨rfl, rfl⟩; rw [Hd.out]
  go_wp2_with fail; (with_reducible refine (spec_DrawTackOf so n cap B _ h hB (by omega)).mono ?_); rintro e w1 ⟨⟨wx, wy, x, y, rfl⟩, hb1⟩; have hz1 := hb1.size
  rcases b2 (isWd wx wy && isHd x y) with g1 | g1
  · have T1 : ∀ W, Calls Try.prog 12 #[.agg #[.int .i64 wx, .int .i64 wy], .agg #[.int .i64 x, .int .i64 y]] W fun e w' => e = .returned (.tuple #[.int .i64 0, .int .i64 1]) ∧ Below W.heap.size W w' := fun W => (impl_TackOf wx wy x y W).mono fun e w' k => ⟨by rw [k.1, g1]; rfl, k.2⟩
    have T2 : ∀ W, Calls Try.prog 13 #[.agg #[.int .i64 wx, .int .i64 wy], .agg #[.int .i64 x, .int .i64 y]] W fun e w' => e = .returned (.tuple #[.int .i64 0, .int .i64 1]) ∧ Below W.heap.size W w' := fun W => (spec_TackOf wx wy x y W).mono fun e w' k => ⟨by rw [k.1, g1]; rfl, k.2⟩
    have T3 : ∀ W, Calls Try.prog 14 #[.agg #[.int .i64 wx, .int .i64 wy], .agg #[.int .i64 x, .int .i64 y]] W fun e w' => e = .returned (.tuple #[.int .i64 0, .int .i64 1]) ∧ Below W.heap.size W w' := fun W => (impl_SailOf wx wy x y W).mono fun e w' k => ⟨by rw [k.1, g1]; rfl, k.2⟩
    have K1 := hide T1
    have K2 := hide T2
    have K3 := hide T3
    clear T1 T2 T3 g1
    go_wp2_with fail; (with_reducible refine (K1.out _).mono ?_); rintro e w2 ⟨rfl, hbw2⟩; obtain ⟨hcw2, hfw2⟩ := bcell hbw2; have hzw2 := hbw2.size; have zzw20 : w1.heap.size < w2.heap.size := (by first | omega | (simp at hzw2; omega)); have zzw21 : w1.heap.size + 1 < w2.heap.size := (by first | omega | (simp at hzw2; omega))
    go_wp2_with fail; (with_reducible refine (K2.out _).mono ?_); rintro e w3 ⟨rfl, hbw3⟩; obtain ⟨hcw3, hfw3⟩ := bcell hbw3; have hzw3 := hbw3.size; have zzw30 : w1.heap.size < w3.heap.size := (by first | omega | (simp at hzw3; omega)); have zzw31 : w1.heap.size + 1 < w3.heap.size := (by first | omega | (simp at hzw3; omega))
    go_wp2_with fail; (with_reducible refine (K3.out _).mono ?_); rintro e w4 ⟨rfl, hbw4⟩; obtain ⟨hcw4, hfw4⟩ := bcell hbw4; have hzw4 := hbw4.size; have zzw40 : w1.heap.size < w4.heap.size := (by first | omega | (simp at hzw4; omega)); have zzw41 : w1.heap.size + 1 < w4.heap.size := (by first | omega | (simp at hzw4; omega))
    go_wp2
    go_ret
    exact ⟨rfl, (by repeat (first | with_reducible exact Below.refl _ _ | with_reducible assumption | with_reducible refine Below.drew ?_ | with_reducible refine below_drewN ?_ _ | with_reducible refine Below.setCell ?_ (by first | exact Nat.le_refl _ | (simp; done) | (simp; omega) | (dsimp only; omega)) _ | with_reducible refine Below.alloc ?_ (by first | exact Nat.le_refl _ | (simp; done) | (simp; omega) | (simp at *; omega)) _ | with_reducible refine bstep ?_ (by assumption)))⟩
  · have gw : isWd wx wy = true := by rw [Bool.and_eq_true] at g1; exact g1.1
    have gh : isHd x y = true := by rw [Bool.and_eq_true] at g1; exact g1.2
    have g2 : (isWd wx wy && isHd (-x) (-y)) = true := by rw [gw, hd_back gh]; rfl
    obtain ⟨a1, a2, a3, a4, _⟩ := isHd_t gh
    have hs := sail_back wx wy x y
    have ht := tack_back wx wy x y
    have T1 : ∀ W, Calls Try.prog 12 #[.agg #[.int .i64 wx, .int .i64 wy], .agg #[.int .i64 x, .int .i64 y]] W fun e w' => e = .returned (.tuple #[.int .i64 (tackI wx wy x y), .int .i64 0]) ∧ Below W.heap.size W w' := fun W => (impl_TackOf wx wy x y W).mono fun e w' k => ⟨by rw [k.1, g1]; rfl, k.2⟩
    have T2 : ∀ W, Calls Try.prog 13 #[.agg #[.int .i64 wx, .int .i64 wy], .agg #[.int .i64 x, .int .i64 y]] W fun e w' => e = .returned (.tuple #[.int .i64 (tackI wx wy x y), .int .i64 0]) ∧ Below W.heap.size W w' := fun W => (spec_TackOf wx wy x y W).mono fun e w' k => ⟨by rw [k.1, g1]; rfl, k.2⟩
    have T3 : ∀ W, Calls Try.prog 14 #[.agg #[.int .i64 wx, .int .i64 wy], .agg #[.int .i64 x, .int .i64 y]] W fun e w' => e = .returned (.tuple #[.int .i64 (sailI wx wy x y), .int .i64 0]) ∧ Below W.heap.size W w' := fun W => (impl_SailOf wx wy x y W).mono fun e w' k => ⟨by rw [k.1, g1]; rfl, k.2⟩
    have T4 : ∀ W, Calls Try.prog 12 #[.agg #[.int .i64 wx, .int .i64 wy], .agg #[.int .i64 (-x), .int .i64 (-y)]] W fun e w' => e = .returned (.tuple #[.int .i64 (tackI wx wy (-x) (-y)), .int .i64 0]) ∧ Below W.heap.size W w' := fun W => (impl_TackOf wx wy (-x) (-y) W).mono fun e w' k => ⟨by rw [k.1, g2]; rfl, k.2⟩
    have T5 : ∀ W, Calls Try.prog 14 #[.agg #[.int .i64 wx, .int .i64 wy], .agg #[.int .i64 (-x), .int .i64 (-y)]] W fun e w' => e = .returned (.tuple #[.int .i64 (sailI wx wy (-x) (-y)), .int .i64 0]) ∧ Below W.heap.size W w' := fun W => (impl_SailOf wx wy (-x) (-y) W).mono fun e w' k => ⟨by rw [k.1, g2]; rfl, k.2⟩
    generalize tackI wx wy x y = ta at *
    generalize tackI wx wy (-x) (-y) = tb at *
    generalize sailI wx wy x y = sa at *
    generalize sailI wx wy (-x) (-y) = sb at *
    have K1 := hide T1
    have K2 := hide T2
    have K3 := hide T3
    have K4 := hide T4
    have K5 := hide T5
    have we : IntKind.i64.wrap (sa + sb) = 4 := by rw [hs]; exact IntWalk.i64_in _ (by decide)
    clear T1 T2 T3 T4 T5 g1 g2 gw gh
    rcases ht with ⟨rfl, rfl⟩ | ⟨rfl, rfl⟩ | ⟨rfl, rfl⟩
    all_goals
      go_wp2_with fail; (with_reducible refine (K1.out _).mono ?_); rintro e w2 ⟨rfl, hbw2⟩; obtain ⟨hcw2, hfw2⟩ := bcell hbw2; have hzw2 := hbw2.size; have zzw20 : w1.heap.size < w2.heap.size := (by first | omega | (simp at hzw2; omega)); have zzw21 : w1.heap.size + 1 < w2.heap.size := (by first | omega | (simp at hzw2; omega))
      go_wp2_with fail; (with_reducible refine (K2.out _).mono ?_); rintro e w3 ⟨rfl, hbw3⟩; obtain ⟨hcw3, hfw3⟩ := bcell hbw3; have hzw3 := hbw3.size; have zzw30 : w1.heap.size < w3.heap.size := (by first | omega | (simp at hzw3; omega)); have zzw31 : w1.heap.size + 1 < w3.heap.size := (by first | omega | (simp at hzw3; omega))
      go_wp2_with fail; (with_reducible refine (K3.out _).mono ?_); rintro e w4 ⟨rfl, hbw4⟩; obtain ⟨hcw4, hfw4⟩ := bcell hbw4; have hzw4 := hbw4.size; have zzw40 : w1.heap.size < w4.heap.size := (by first | omega | (simp at hzw4; omega)); have zzw41 : w1.heap.size + 1 < w4.heap.size := (by first | omega | (simp at hzw4; omega))
      go_wp2_with fail; (with_reducible refine (K4.out _).mono ?_); rintro e w5 ⟨rfl, hbw5⟩; obtain ⟨hcw5, hfw5⟩ := bcell hbw5; have hzw5 := hbw5.size; have zzw50 : w1.heap.size < w5.heap.size := (by first | omega | (simp at hzw5; omega)); have zzw51 : w1.heap.size + 1 < w5.heap.size := (by first | omega | (simp at hzw5; omega)); have zzw52 : w4.heap.size < w5.heap.size := (by first | omega | (simp at hzw5; omega))
      go_wp2_with fail; (with_reducible refine (K5.out _).mono ?_); rintro e w6 ⟨rfl, hbw6⟩; obtain ⟨hcw6, hfw6⟩ := bcell hbw6; have hzw6 := hbw6.size; have zzw60 : w1.heap.size < w6.heap.size := (by first | omega | (simp at hzw6; omega)); have zzw61 : w1.heap.size + 1 < w6.heap.size := (by first | omega | (simp at hzw6; omega)); have zzw62 : w4.heap.size < w6.heap.size := (by first | omega | (simp at hzw6; omega))
      go_wp2
      go_ret
      exact ⟨rfl, (by repeat (first | with_reducible exact Below.refl _ _ | with_reducible assumption | with_reducible refine Below.drew ?_ | with_reducible refine below_drewN ?_ _ | with_reducible refine Below.setCell ?_ (by first | exact Nat.le_refl _ | (simp; done) | (simp; omega) | (dsimp only; omega)) _ | with_reducible refine Below.alloc ?_ (by first | exact Nat.le_refl _ | (simp; done) | (simp; omega) | (simp at *; omega)) _ | with_reducible refine bstep ?_ (by assumption)))⟩

set_option maxRecDepth 100000 in
theorem FnTack_lifted (os : Os) (started : os.Started) (H : Type) (enc : TypeId × Value → H) :
    ReturnsInHanded {} Try.checked os 3 .any (Rows.fnTackSpec.pre6 enc Try.prog Try.f3 Rows.fnTackRow.domain false) (Rows.fnTackSpec.post enc Try.prog Try.f3 false true false false) := by
  refine returnsInHanded_of_change (C := Try.checked) Try.own started (by as_aux_lemma => kernel_rfl) Try.func3
    (ChangeSpec.witness6 (enc := enc) (C := Try.checked) false ⟨#[], #[.slice none 0 0], []⟩ 8 (by as_aux_lemma => kernel_rfl) (by as_aux_lemma => kernel_rfl) (by as_aux_lemma => kernel_rfl) (by as_aux_lemma => kernel_rfl)) ?_
  intro W base args ds gs before hval0 hW _ _
  have hval : ∀ (j : Nat) t v, Try.f3.params[j]? = some t → args[j]? = some v → Value.okWide Try.prog W .any base t v := hval0
  have hW' := hW
  obtain ⟨p, q, hA0, hV, rfl, _, _⟩ := hW
  have hA : DataW.TrodAll enc Try.prog W 0 (fun _ => true) true Try.f3.params.toList args.toList ds p := hA0
  rw [Try.params3] at hA hval
  obtain ⟨v0, vs0, d0, ds0, p0, q0, hargs, rfl, rfl, h0, r0⟩ := trodAll_cons hA
  obtain ⟨rfl, rfl, rfl⟩ := trodAll_nil r0
  obtain rfl : args = #[v0] := by cases args; simp_all
  obtain ⟨so0, n0, cp0, B0, rfl, hl0, hr0, hB0⟩ := op_bytes (hval 0 22 v0 rfl rfl) h0
  obtain ⟨rfl, rfl⟩ := trodVars_none hV
  refine (laws_FnTack so0 n0 cp0 B0 W hl0 hr0 hB0).mono fun e W1 ⟨he, hb⟩ => ⟨_, he, ?_⟩
  exact law_post Try.laidOut (by as_aux_lemma => kernel_rfl) Try.underlying4 rfl rfl hW' rfl rfl rfl hb
set_option maxHeartbeats 8000000 in
theorem FnTack_closed : joinedFacts Try.prog 3 Try.f3 Rows.fnTackSpec Rows.fnTackRow = true := by
  simp only [joinedFacts, Bool.and_eq_true, Try.laidOut, Try.mapsRowed, Try.stopsNone, Try.stopKnobsNone, Try.plainKeysIs, Try.stopsHeardIs, Try.mayEnterIs, Try.liftsFinalIs, Try.makeIs, and_true, true_and]
  repeat' (with_reducible refine And.intro ?_ ?_)
  all_goals (as_aux_lemma => kernel_rfl)
set_option maxHeartbeats 8000000 in
/-- FnTack: whatever the input, the law returns true, and the input reads as it did. -/
theorem FnTack_holds : Rows.FnTackSaid :=
  OpenClaim.holds_of_wide 3 Try.f3 rfl rfl rfl rfl rfl rfl rfl ⟨rfl, rfl, rfl, rfl, rfl⟩ rfl rfl rfl rfl rfl (by as_aux_lemma => kernel_rfl) Try.func3
    FnTack_closed
    (of_decide_eq_true (by as_aux_lemma => kernel_rfl)) (by unfold Func.isWrapper; rw [if_neg (of_decide_eq_false (by as_aux_lemma => kernel_rfl))]; exact ⟨rfl, rfl⟩)
    (fun os started H enc _ => FnTack_lifted os started H enc)
#print axioms FnTack_holds
end Go.Proofs.Ytkhapajjbomknaa
