/- FnRule holds: the ruling does not depend on the order of the boats, and its text is read back; for every code. What the program's text lays in the library's three tables is all that the card takes. -/
import Derived.Test.YtnmnibpcklcmgaaDoorRd
import Derived.Test.YtnmnibpcklcmgaaDoorDr
import Derived.Test.YtnmnibpcklcmgaaDoorN
import Derived.Test.YtnmnibpcklcmgaaDoorLaw
import Derived.Test.YtnmnibpcklcmgaaDoorLb
import Derived.Test.YtnmnibpcklcmgaaDoorTie
import Derived.Test.YtnmnibpcklcmgaaDoorCards
import Derived.Laws.StructEq
import Derived.LaidMore
import Derived.OpenShut
import Derived.Stop.Joined
import Derived.SevenTiedAt
namespace Go.Proofs.YtnmnibpcklcmgaaDoor
open Go.ChangeShapes Go.WideShapes Go.ChangeAt Go.RowKit

theorem rul_back (g r : Int) (h : rulOk g r = true) : rdG (fstQ (hitT rulT (rulTx g r)) 15) = g ∧ rdR 1 (fstQ (hitT rulT (rulTx g r)) 15) = r ∧ (fstQ (hitT rulT (rulTx g r)) 15).isSome = true := by
  have h' := h
  unfold rulOk at h'
  simp only [Bool.and_eq_true] at h'
  have h1 := inB_t h'.1.1
  have h2 := inB_t h'.1.2
  clear h'
  rcases (by omega : g = 0 ∨ g = 1 ∨ g = 2) with rfl | rfl | rfl <;> rcases (by omega : r = 1 ∨ r = 2 ∨ r = 3 ∨ r = 4 ∨ r = 5) with rfl | rfl | rfl | rfl | rfl
  all_goals first
    | exact absurd h (by decide)
    | exact ⟨by kernel_rfl, by kernel_rfl, by kernel_rfl⟩
theorem ovl_swp (bx bY hx hy l cx cy ix iy m : Int) : (ovlH bx bY hx hy l cx cy ix iy m = 0 ∧ ovlH cx cy ix iy m bx bY hx hy l = 0) ∨ (ovlH bx bY hx hy l cx cy ix iy m = 1 ∧ ovlH cx cy ix iy m bx bY hx hy l = 2) ∨ (ovlH bx bY hx hy l cx cy ix iy m = 2 ∧ ovlH cx cy ix iy m bx bY hx hy l = 1) ∨ (ovlH bx bY hx hy l cx cy ix iy m = 3 ∧ ovlH cx cy ix iy m bx bY hx hy l = 3) := by
  unfold ovlH
  generalize clr hx hy l (ahd bx bY hx hy cx cy) = p
  generalize clr ix iy m (ahd cx cy ix iy bx bY) = q
  cases p <;> cases q <;> simp [ovl, sel]
theorem ww_swp (wx wy ax ay bx bY : Int) : (wwI wx wy ax ay bx bY = 0 ∧ wwI wx wy bx bY ax ay = 0) ∨ (wwI wx wy ax ay bx bY = 1 ∧ wwI wx wy bx bY ax ay = 2) ∨ (wwI wx wy ax ay bx bY = 2 ∧ wwI wx wy bx bY ax ay = 1) := by
  unfold wwI
  generalize ax * wx + ay * wy = p
  generalize bx * wx + bY * wy = q
  (repeat' split) <;> first | omega | simp
/-- The ruling, out of what it is made of. -/
def rulP (t u : Bool) (x y o k : Int) : Int × Int :=
  if t != u then (if t then (1, 1) else (2, 1))
  else if t || x == 0 || y == 0 then (0, 5)
  else if x != y then (x, 2)
  else if o == 1 then (2, 3)
  else if o == 2 then (1, 3)
  else if o == 3 then (0, 5)
  else if 0 < k then (k, 4) else (0, 5)
theorem rulP_both (t u : Bool) (x y o o' k k' : Int) (hx : x = 0 ∨ x = 1 ∨ x = 2) (hy : y = 0 ∨ y = 1 ∨ y = 2) (ho : (o = 0 ∧ o' = 0) ∨ (o = 1 ∧ o' = 2) ∨ (o = 2 ∧ o' = 1) ∨ (o = 3 ∧ o' = 3)) (hk : (k = 0 ∧ k' = 0) ∨ (k = 1 ∧ k' = 2) ∨ (k = 2 ∧ k' = 1)) :
    rulOk (rulP t u x y o k).1 (rulP t u x y o k).2 = true ∧ (rulP u t y x o' k').2 = (rulP t u x y o k).2 ∧ (((rulP t u x y o k).1 = 0 ∧ (rulP u t y x o' k').1 = 0) ∨ ((rulP t u x y o k).1 = 1 ∧ (rulP u t y x o' k').1 = 2) ∨ ((rulP t u x y o k).1 = 2 ∧ (rulP u t y x o' k').1 = 1)) := by
  rcases hx with rfl | rfl | rfl <;> rcases hy with rfl | rfl | rfl <;> rcases ho with ⟨rfl, rfl⟩ | ⟨rfl, rfl⟩ | ⟨rfl, rfl⟩ | ⟨rfl, rfl⟩ <;> rcases hk with ⟨rfl, rfl⟩ | ⟨rfl, rfl⟩ | ⟨rfl, rfl⟩ <;> cases t <;> cases u <;> decide
theorem rul_both (wx wy bx bY hx hy l : Int) (t : Bool) (cx cy ix iy m : Int) (u : Bool) :
    ∃ r1 r2 x1, rulI wx wy bx bY hx hy l t cx cy ix iy m u = (r1, r2) ∧ rulI wx wy cx cy ix iy m u bx bY hx hy l t = (x1, r2) ∧ rulOk r1 r2 = true ∧ ((r1 = 0 ∧ x1 = 0) ∨ (r1 = 1 ∧ x1 = 2) ∨ (r1 = 2 ∧ x1 = 1)) := by
  have k := rulP_both t u _ _ _ _ _ _ (tackI_range wx wy hx hy) (tackI_range wx wy ix iy) (ovl_swp bx bY hx hy l cx cy ix iy m) (ww_swp wx wy bx bY cx cy)
  refine ⟨_, _, _, Prod.ext rfl rfl, Prod.ext rfl k.2.1, k.1, k.2.2⟩
theorem cmp_neq (a b c d : Int) (W : World) : (binOp .neq 25 (.agg #[.int .i64 a, .int .i64 b]) (.agg #[.int .i64 c, .int .i64 d])).run Tryd.prog W = .ok (.bool (!(a == c && b == d))) W := by
  rcases b2 (a == c) with h1 | h1 <;> rcases b2 (b == d) with h2 | h2 <;> simp [run_neq_struct, run_equalIn_agg, go_sem, *]
set_option maxRecDepth 100000 in
set_option maxHeartbeats 8000000 in
theorem laws_FnRule (so : Option Addr) (n cap : Nat) (B : Nat → Int) (w : World) (hl : n ≤ maxLen) (h : RowAt w so n 1 (vb B)) (hB : ∀ i, 0 ≤ B i ∧ B i ≤ 255) :
    Calls Tryd.prog 8 #[.slice so n cap] w fun e w' => e = .returned (.bool true) ∧ Below w.heap.size w w' := by
  unfold maxLen at hl
  by_cases hn : 4096 < n
  · have Hd := hide (decide_eq_true hn)
    go_enter Tryd.func8, Tryd.ntmps8
    go_wp2_with (go_at_call 21; (with_reducible refine (laws_big _ _ _ _ (by omega)).mono ?_); rintro e w9 ⟨rfl, rfl⟩; rw [Hd.out])
    go_ret
    exact ⟨rfl, (by repeat (first | with_reducible exact Below.refl _ _ | with_reducible assumption | with_reducible refine Below.drew ?_ | with_reducible refine below_drewN ?_ _ | with_reducible refine Below.setCell ?_ (by first | exact Nat.le_refl _ | (simp; done) | (simp; omega) | (dsimp only; omega)) _ | with_reducible refine Below.alloc ?_ (by first | exact Nat.le_refl _ | (simp; done) | (simp; omega) | (simp at *; omega)) _ | with_reducible refine bstep ?_ (by assumption)))⟩
  have Hd := hide (decide_eq_false hn)
  have hcmp := cmp_neq
  go_enter Tryd.func8, Tryd.ntmps8
  go_wp2_with fail; (with_reducible refine (laws_big _ _ _ _ (by omega)).mono ?_); rintro e w0 ⟨rfl, rfl⟩; rw [Hd.out]
  go_wp2_with fail; (with_reducible refine (spec_DrawRuleOn so n cap B _ h hB (by omega)).mono ?_); rintro e w1 ⟨⟨wx, wy, bx, bY, hx, hy, l, t, cx, cy, ix, iy, m, u, rfl⟩, hb1⟩; have hz1 := hb1.size
  rcases b2 (isWd wx wy && isHu bx bY hx hy l && isHu cx cy ix iy m) with g1 | g1
  · have K1 := hide (show ∀ W, Calls Tryd.prog 25 #[.agg #[.int .i64 wx, .int .i64 wy], .agg #[.int .i64 bx, .int .i64 bY, .int .i64 hx, .int .i64 hy, .int .i64 l, .bool (t)], .agg #[.int .i64 cx, .int .i64 cy, .int .i64 ix, .int .i64 iy, .int .i64 m, .bool (u)]] W fun e w' => e = .returned (.tuple #[.agg #[.int .i64 0, .int .i64 0], .int .i64 1]) ∧ Below W.heap.size W w' from fun W => (impl_RuleOn wx wy bx bY hx hy l t cx cy ix iy m u W).mono fun e w' k => ⟨by rw [k.1, g1]; rfl, k.2⟩)
    have K2 := hide (show ∀ W, Calls Tryd.prog 26 #[.agg #[.int .i64 wx, .int .i64 wy], .agg #[.int .i64 bx, .int .i64 bY, .int .i64 hx, .int .i64 hy, .int .i64 l, .bool (t)], .agg #[.int .i64 cx, .int .i64 cy, .int .i64 ix, .int .i64 iy, .int .i64 m, .bool (u)]] W fun e w' => e = .returned (.tuple #[.agg #[.int .i64 0, .int .i64 0], .int .i64 1]) ∧ Below W.heap.size W w' from fun W => (spec_RuleOn wx wy bx bY hx hy l t cx cy ix iy m u W).mono fun e w' k => ⟨by rw [k.1, g1]; rfl, k.2⟩)
    clear g1
    go_wp2_with fail; (with_reducible refine (K1.out _).mono ?_); rintro e w2 ⟨rfl, hbw2⟩; obtain ⟨hcw2, hfw2⟩ := bcell hbw2; have hzw2 := hbw2.size; have zzw20 : w1.heap.size < w2.heap.size := (by first | omega | (simp at hzw2; omega)); have zzw21 : w1.heap.size + 1 < w2.heap.size := (by first | omega | (simp at hzw2; omega)); have zzw22 : w1.heap.size + 1 + 1 < w2.heap.size := (by first | omega | (simp at hzw2; omega))
    go_wp2_with fail; (with_reducible refine (K2.out _).mono ?_); rintro e w3 ⟨rfl, hbw3⟩; obtain ⟨hcw3, hfw3⟩ := bcell hbw3; have hzw3 := hbw3.size; have zzw30 : w1.heap.size < w3.heap.size := (by first | omega | (simp at hzw3; omega)); have zzw31 : w1.heap.size + 1 < w3.heap.size := (by first | omega | (simp at hzw3; omega)); have zzw32 : w1.heap.size + 1 + 1 < w3.heap.size := (by first | omega | (simp at hzw3; omega)); have zzw33 : w2.heap.size < w3.heap.size := (by first | omega | (simp at hzw3; omega))
    go_wp2
    go_ret
    exact ⟨rfl, (by repeat (first | with_reducible exact Below.refl _ _ | with_reducible assumption | with_reducible refine Below.drew ?_ | with_reducible refine below_drewN ?_ _ | with_reducible refine Below.setCell ?_ (by first | exact Nat.le_refl _ | (simp; done) | (simp; omega) | (dsimp only; omega)) _ | with_reducible refine Below.alloc ?_ (by first | exact Nat.le_refl _ | (simp; done) | (simp; omega) | (simp at *; omega)) _ | with_reducible refine bstep ?_ (by assumption)))⟩
  · have g2 : (isWd wx wy && isHu cx cy ix iy m && isHu bx bY hx hy l) = true := by
      simp only [Bool.and_eq_true] at g1 ⊢
      exact ⟨⟨g1.1.1, g1.2⟩, g1.1.2⟩
    obtain ⟨r1, r2, x1, q1, q2, q3, q4⟩ := rul_both wx wy bx bY hx hy l t cx cy ix iy m u
    obtain ⟨t9, ht⟩ : ∃ t, t = rulTx r1 r2 := ⟨_, rfl⟩
    obtain ⟨p1, p2, p3⟩ := rul_back r1 r2 q3
    have K1 := hide (show ∀ W, Calls Tryd.prog 25 #[.agg #[.int .i64 wx, .int .i64 wy], .agg #[.int .i64 bx, .int .i64 bY, .int .i64 hx, .int .i64 hy, .int .i64 l, .bool (t)], .agg #[.int .i64 cx, .int .i64 cy, .int .i64 ix, .int .i64 iy, .int .i64 m, .bool (u)]] W fun e w' => e = .returned (.tuple #[.agg #[.int .i64 r1, .int .i64 r2], .int .i64 0]) ∧ Below W.heap.size W w' from fun W => (impl_RuleOn wx wy bx bY hx hy l t cx cy ix iy m u W).mono fun e w' k => ⟨by rw [k.1, g1, q1]; rfl, k.2⟩)
    have K2 := hide (show ∀ W, Calls Tryd.prog 26 #[.agg #[.int .i64 wx, .int .i64 wy], .agg #[.int .i64 bx, .int .i64 bY, .int .i64 hx, .int .i64 hy, .int .i64 l, .bool (t)], .agg #[.int .i64 cx, .int .i64 cy, .int .i64 ix, .int .i64 iy, .int .i64 m, .bool (u)]] W fun e w' => e = .returned (.tuple #[.agg #[.int .i64 r1, .int .i64 r2], .int .i64 0]) ∧ Below W.heap.size W w' from fun W => (spec_RuleOn wx wy bx bY hx hy l t cx cy ix iy m u W).mono fun e w' k => ⟨by rw [k.1, g1, q1]; rfl, k.2⟩)
    have K3 := hide (show ∀ W, Calls Tryd.prog 25 #[.agg #[.int .i64 wx, .int .i64 wy], .agg #[.int .i64 cx, .int .i64 cy, .int .i64 ix, .int .i64 iy, .int .i64 m, .bool (u)], .agg #[.int .i64 bx, .int .i64 bY, .int .i64 hx, .int .i64 hy, .int .i64 l, .bool (t)]] W fun e w' => e = .returned (.tuple #[.agg #[.int .i64 x1, .int .i64 r2], .int .i64 0]) ∧ Below W.heap.size W w' from fun W => (impl_RuleOn wx wy cx cy ix iy m u bx bY hx hy l t W).mono fun e w' k => ⟨by rw [k.1, g2, q2]; rfl, k.2⟩)
    have K4 := hide (show ∀ W, Calls Tryd.prog 11 #[.agg #[.int .i64 r1, .int .i64 r2]] W fun e w' => e = .returned (.string t9) ∧ Below W.heap.size W w' from fun W => (impl_RulingText r1 r2 W).mono fun e w' k => ⟨by rw [k.1, ht], k.2⟩)
    have K5 := hide (show ∀ W, Calls Tryd.prog 16 #[.string t9] W fun e w' => e = .returned (.tuple #[.agg #[.int .i64 r1, .int .i64 r2], .bool true]) ∧ Below W.heap.size W w' from fun W => (impl_ReadRuling t9 W).mono fun e w' k => ⟨by rw [k.1, ht, p1, p2, p3], k.2⟩)
    clear q1 q2 q3 p1 p2 p3 ht g1 g2
    go_wp2_with fail; (with_reducible refine (K1.out _).mono ?_); rintro e w2 ⟨rfl, hbw2⟩; obtain ⟨hcw2, hfw2⟩ := bcell hbw2; have hzw2 := hbw2.size; have zzw20 : w1.heap.size < w2.heap.size := (by first | omega | (simp at hzw2; omega)); have zzw21 : w1.heap.size + 1 < w2.heap.size := (by first | omega | (simp at hzw2; omega)); have zzw22 : w1.heap.size + 1 + 1 < w2.heap.size := (by first | omega | (simp at hzw2; omega))
    go_wp2_with fail; (with_reducible refine (K2.out _).mono ?_); rintro e w3 ⟨rfl, hbw3⟩; obtain ⟨hcw3, hfw3⟩ := bcell hbw3; have hzw3 := hbw3.size; have zzw30 : w1.heap.size < w3.heap.size := (by first | omega | (simp at hzw3; omega)); have zzw31 : w1.heap.size + 1 < w3.heap.size := (by first | omega | (simp at hzw3; omega)); have zzw32 : w1.heap.size + 1 + 1 < w3.heap.size := (by first | omega | (simp at hzw3; omega)); have zzw33 : w2.heap.size < w3.heap.size := (by first | omega | (simp at hzw3; omega))
    go_wp2_with fail; (with_reducible refine (K3.out _).mono ?_); rintro e w4 ⟨rfl, hbw4⟩; obtain ⟨hcw4, hfw4⟩ := bcell hbw4; have hzw4 := hbw4.size; have zzw40 : w1.heap.size < w4.heap.size := (by first | omega | (simp at hzw4; omega)); have zzw41 : w1.heap.size + 1 < w4.heap.size := (by first | omega | (simp at hzw4; omega)); have zzw42 : w1.heap.size + 1 + 1 < w4.heap.size := (by first | omega | (simp at hzw4; omega)); have zzw43 : w2.heap.size < w4.heap.size := (by first | omega | (simp at hzw4; omega)); have zzw44 : w3.heap.size < w4.heap.size := (by first | omega | (simp at hzw4; omega))
    go_wp2_with fail; (with_reducible refine (K4.out _).mono ?_); rintro e w5 ⟨rfl, hbw5⟩; obtain ⟨hcw5, hfw5⟩ := bcell hbw5; have hzw5 := hbw5.size; have zzw50 : w1.heap.size < w5.heap.size := (by first | omega | (simp at hzw5; omega)); have zzw51 : w1.heap.size + 1 < w5.heap.size := (by first | omega | (simp at hzw5; omega)); have zzw52 : w1.heap.size + 1 + 1 < w5.heap.size := (by first | omega | (simp at hzw5; omega)); have zzw53 : w2.heap.size < w5.heap.size := (by first | omega | (simp at hzw5; omega)); have zzw54 : w3.heap.size < w5.heap.size := (by first | omega | (simp at hzw5; omega)); have zzw55 : w4.heap.size < w5.heap.size := (by first | omega | (simp at hzw5; omega))
    go_wp2_with fail; (with_reducible refine (K5.out _).mono ?_); rintro e w6 ⟨rfl, hbw6⟩; obtain ⟨hcw6, hfw6⟩ := bcell hbw6; have hzw6 := hbw6.size; have zzw60 : w1.heap.size < w6.heap.size := (by first | omega | (simp at hzw6; omega)); have zzw61 : w1.heap.size + 1 < w6.heap.size := (by first | omega | (simp at hzw6; omega)); have zzw62 : w1.heap.size + 1 + 1 < w6.heap.size := (by first | omega | (simp at hzw6; omega)); have zzw63 : w2.heap.size < w6.heap.size := (by first | omega | (simp at hzw6; omega)); have zzw64 : w3.heap.size < w6.heap.size := (by first | omega | (simp at hzw6; omega)); have zzw65 : w4.heap.size < w6.heap.size := (by first | omega | (simp at hzw6; omega))
    rcases q4 with ⟨rfl, rfl⟩ | ⟨rfl, rfl⟩ | ⟨rfl, rfl⟩
    all_goals
      go_wp2
      go_ret
      exact ⟨rfl, (by repeat (first | with_reducible exact Below.refl _ _ | with_reducible assumption | with_reducible refine Below.drew ?_ | with_reducible refine below_drewN ?_ _ | with_reducible refine Below.setCell ?_ (by first | exact Nat.le_refl _ | (simp; done) | (simp; omega) | (dsimp only; omega)) _ | with_reducible refine Below.alloc ?_ (by first | exact Nat.le_refl _ | (simp; done) | (simp; omega) | (simp at *; omega)) _ | with_reducible refine bstep ?_ (by assumption)))⟩

set_option maxRecDepth 100000 in
set_option maxHeartbeats 8000000 in
theorem FnRule_met (os : Os) (args : Array Value) : laidMetH Tryd.prog Rows.fnRuleRow.laid ((World.doorLaid Tryd.prog 24 os).forCall (fun _ _ => 0) ⟨#[], args, []⟩).memory :=
  laidMetH_of_parts3 (fuel := 8) (laidMet_of_run' 8 (by as_aux_lemma => kernel_rfl) (by as_aux_lemma => kernel_rfl)) (by as_aux_lemma => kernel_rfl) (by as_aux_lemma => kernel_rfl)
set_option maxRecDepth 100000 in
theorem FnRule_lifted (os : Os) (started : os.Started) (H : Type) (enc : TypeId × Value → H) :
    ReturnsInHanded {} Tryd.checked os 8 .any (fun w args => (Rows.fnRuleSpec.pre enc Tryd.prog Tryd.f8 [] false w args ∧ laidMetH Tryd.prog Rows.fnRuleRow.laid w) ∧ sizedMet enc Tryd.prog Tryd.f8 (OpenSpec.ofChange Rows.fnRuleSpec) false w args) (Rows.fnRuleSpec.post enc Tryd.prog Tryd.f8 false true false false) := by
  refine returnsInHanded_of_change_and (C := Tryd.checked) (X := fun w _ => laidMetH Tryd.prog Rows.fnRuleRow.laid w) (fun _ _ _ hh h => h.of_heap hh) Tryd.own started (by as_aux_lemma => kernel_rfl) Tryd.func8
    (ChangeSpec.witness_shaped (enc := enc) (C := Tryd.checked) (os := os) (X := fun w _ => laidMetH Tryd.prog Rows.fnRuleRow.laid w) false (World.doorLaid Tryd.prog 24 os) #[.slice none 0 0] 8 rfl (World.shaped_of_RefB (by as_aux_lemma => kernel_rfl) (by as_aux_lemma => kernel_rfl)) (by as_aux_lemma => kernel_rfl) (by as_aux_lemma => kernel_rfl) (by as_aux_lemma => kernel_rfl) (FnRule_met os _)) ?_
  intro W base args ds gs before hval0 hW _ _ hL _
  have hval : ∀ (j : Nat) t v, Tryd.f8.params[j]? = some t → args[j]? = some v → Value.okWide Tryd.prog W .any base t v := hval0
  have hW' := hW
  obtain ⟨p, q, hA0, hV, rfl, _, _⟩ := hW
  have hA : DataW.TrodAll enc Tryd.prog W 0 (fun _ => true) true Tryd.f8.params.toList args.toList ds p := hA0
  rw [Tryd.params8] at hA hval
  obtain ⟨v0, vs0, d0, ds0, p0, q0, hargs, rfl, rfl, h0, r0⟩ := trodAll_cons hA
  obtain ⟨rfl, rfl, rfl⟩ := trodAll_nil r0
  obtain rfl : args = #[v0] := by cases args; simp_all
  obtain ⟨so0, n0, cp0, B0, rfl, hl0, hr0, hB0⟩ := op_bytes (hval 0 41 v0 rfl rfl) h0
  obtain ⟨rfl, rfl⟩ := trodVars_none hV
  refine (laws_FnRule so0 n0 cp0 B0 W hl0 hr0 hB0).mono fun e W1 ⟨he, hb⟩ => ⟨_, he, ?_⟩
  exact law_post Tryd.laidOut (by as_aux_lemma => kernel_rfl) Tryd.underlying4 rfl rfl hW' rfl rfl rfl hb
set_option maxHeartbeats 8000000 in
theorem FnRule_closed : joinedFacts Tryd.prog 8 Tryd.f8 Rows.fnRuleSpec Rows.fnRuleRow = true := by
  simp only [joinedFacts, Bool.and_eq_true, Tryd.laidOut, Tryd.mapsRowed, Tryd.stopsNone, Tryd.stopKnobsNone, Tryd.plainKeysIs, Tryd.stopsHeardIs, Tryd.mayEnterIs, Tryd.liftsFinalIs, Tryd.makeIs, and_true, true_and]
  repeat' (with_reducible refine And.intro ?_ ?_)
  all_goals (as_aux_lemma => kernel_rfl)
set_option maxHeartbeats 8000000 in
/-- FnRule: whatever the input, the law returns true, and the input reads as it did. -/
theorem FnRule_row : Rows.FnRuleSaid :=
  OpenClaim.holds_of_wide 8 Tryd.f8 rfl rfl rfl rfl rfl rfl rfl ⟨rfl, rfl, rfl, rfl, rfl⟩ rfl rfl rfl rfl rfl (by as_aux_lemma => kernel_rfl) Tryd.func8
    FnRule_closed
    (of_decide_eq_true (by as_aux_lemma => kernel_rfl)) (by unfold Func.isWrapper; rw [if_neg (of_decide_eq_false (by as_aux_lemma => kernel_rfl))]; exact ⟨rfl, rfl⟩)
    (fun os started H enc _ => FnRule_lifted os started H enc)

set_option maxHeartbeats 8000000 in
/-- FnRule: the tied card. -/
theorem FnRule_holds : Rows.FnRuleCardSaid :=
  Claim7.holds_tied_plain_at .later [] [.data, .data, .data] true (true, "396906f403540a969622ff25758568b741ef9fce264be4e8998a05020f2d808e") false
    FnRule_row (fun _ h => by cases h) (by as_aux_lemma => kernel_rfl) (fun _ h => by cases h) fnRule_row_tie rfl ⟨rfl, rfl⟩ (by as_aux_lemma => kernel_rfl) rfl
    (fun f fn hf hfn => by
      obtain rfl : f = 8 := Option.some.inj ((show Tryd.prog.funcNamed Rows.fnRuleRow.func = some 8 by kernel_rfl).symm.trans hf) |>.symm
      obtain rfl : fn = Tryd.f8 := (Option.some.inj (Tryd.func8.symm.trans hfn)).symm
      exact ⟨by kernel_rfl, fun j t ht => by
        rw [Tryd.params8] at ht
        have hm : t ∈ [41] := by simpa using Array.mem_of_getElem? ht
        have hall : ([41].all fun u => !Tryd.prog.wantsStandIn u) = true := by kernel_rfl
        exact (show Tryd.prog.wantsStandIn t = false by simpa using List.all_eq_true.1 hall t hm)⟩)
    (by as_aux_lemma => kernel_rfl)
#print axioms FnRule_holds
end Go.Proofs.YtnmnibpcklcmgaaDoor
