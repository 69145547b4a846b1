/- FnRuleAt holds: the ruling at a time is that for the boats of both tracks; for every code. No condition. -/
import Derived.Test.YtndlpoffpcpnkaaEa
import Derived.Test.YtndlpoffpcpnkaaEb
import Derived.Test.YtndlpoffpcpnkaaRa
import Derived.Test.YtndlpoffpcpnkaaN
import Derived.Test.YtndlpoffpcpnkaaLaw
import Derived.Test.YtndlpoffpcpnkaaLb
namespace Go.Proofs.Ytndlpoffpcpnkaa
open Go.ChangeShapes Go.WideShapes Go.ChangeAt Go.RowKit

theorem ruC_ok {wx wy : Int} {n : Nat} {T X Y : Nat → Int} {n2 : Nat} {U V Z : Nat → Int} {t len sp : Int} (h : ruC wx wy n T X Y n2 U V Z t len sp = 0) : boOk wx wy n T X Y t len sp = true ∧ boOk wx wy n2 U V Z t len sp = true := by
  unfold ruC at h
  rcases bo_two wx wy n T X Y t len sp with ⟨k1, c1⟩ | ⟨k1, c1⟩
  · rw [k1] at h; exact absurd h c1
  · rw [k1] at h
    rcases bo_two wx wy n2 U V Z t len sp with ⟨k2, c2⟩ | ⟨k2, c2⟩
    · exact absurd h c2
    · exact ⟨k1, k2⟩
theorem bo_track {wx wy : Int} {n : Nat} {T X Y : Nat → Int} {t len sp : Int} (h : boOk wx wy n T X Y t len sp = true) : isTr n T X Y = true ∧ inB t (T 0) (T (n - 1)) = true := by
  unfold boOk at h
  simp only [Bool.and_eq_true, beq_iff_eq] at h
  have h2 := h.2
  unfold huC at h2
  rcases b2 (isTr n T X Y) with h3 | h3
  · rw [h3] at h2; exact absurd h2 (by simp [sel])
  · refine ⟨h3, ?_⟩
    rw [h3] at h2
    rcases b2 (inB t (T 0) (T (n - 1))) with h4 | h4
    · rw [h4] at h2
      rcases b2 (inB len 1 1000) with h5 | h5 <;> rw [h5] at h2 <;> exact absurd h2 (by simp [sel])
    · exact h4
set_option maxRecDepth 100000 in
set_option maxHeartbeats 8000000 in
theorem laws_FnRuleAt (so : Option Addr) (n cap : Nat) (B : Nat → Int) (w : World) (hl : n ≤ maxLen) (h : RowAt w so n 1 (vb B)) (hB : ∀ i, 0 ≤ B i ∧ B i ≤ 255) :
    Calls Try.prog 3 #[.slice so n cap] w fun e w' => e = .returned (.bool true) ∧ Below w.heap.size w w' := by
  unfold maxLen at hl
  by_cases hn : 4096 < n
  · have Hd := hide (decide_eq_true hn)
    go_enter Try.func3, Try.ntmps3
    go_wp2_with (go_at_call 4; (with_reducible refine (laws_big _ _ _ _ (by omega)).mono ?_); rintro e w9 ⟨rfl, rfl⟩; rw [Hd.out])
    go_ret
    exact ⟨rfl, bwz⟩
  have Hd := hide (decide_eq_false hn)
  go_enter Try.func3, Try.ntmps3
  go_wp2_with fail; (with_reducible refine (laws_big _ _ _ _ (by omega)).mono ?_); rintro e w0 ⟨rfl, rfl⟩; rw [Hd.out]
  go_wp2_with fail; (with_reducible refine (spec_DrawRuleAt so n cap B _ h hB (by omega)).mono ?_); rintro e w1 ⟨⟨wx, wy, tm, len, sp, so2, n2, cap2, T, X, Y, so3, n3, cap3, U, V, Z, rfl, hn2, hn3, hr, hr3⟩, hb1⟩; have hz1 := hb1.size
  have HR := hide hr
  have HR3 := hide hr3
  have HB1 := hide hb1
  clear hr hr3 hb1 hB h Hd
  obtain ⟨r0, hr0⟩ : ∃ x, x = sel (ruOk wx wy n2 T X Y n3 U V Z tm len sp) (ruI wx wy n2 T X Y n3 U V Z tm len sp).1 0 := ⟨_, rfl⟩
  obtain ⟨r1, hr1⟩ : ∃ x, x = sel (ruOk wx wy n2 T X Y n3 U V Z tm len sp) (ruI wx wy n2 T X Y n3 U V Z tm len sp).2 0 := ⟨_, rfl⟩
  obtain ⟨c9, hc9⟩ : ∃ x, x = ruC wx wy n2 T X Y n3 U V Z tm len sp := ⟨_, rfl⟩
  have K1 := hide (show ∀ W, Below w1.heap.size w1 W → Calls Try.prog 6 #[.agg #[.int .i64 wx, .int .i64 wy], .agg #[.slice so2 n2 cap2], .agg #[.slice so3 n3 cap3], .int .i64 tm, .int .i64 len, .int .i64 sp] W fun e w' => e = .returned (.tuple #[.agg #[.int .i64 r0, .int .i64 r1], .int .i64 c9]) ∧ Below W.heap.size W w' from fun W hb => (impl_RuleAt wx wy so2 n2 cap2 T X Y so3 n3 cap3 U V Z tm len sp W (RowAt.later hb HR.out) (by omega) (RowAt.later hb HR3.out) (by omega)).mono fun e w' k => ⟨by rw [k.1, hr0, hr1, hc9], k.2⟩)
  have K2 := hide (show ∀ W, Below w1.heap.size w1 W → Calls Try.prog 7 #[.agg #[.int .i64 wx, .int .i64 wy], .agg #[.slice so2 n2 cap2], .agg #[.slice so3 n3 cap3], .int .i64 tm, .int .i64 len, .int .i64 sp] W fun e w' => e = .returned (.tuple #[.agg #[.int .i64 r0, .int .i64 r1], .int .i64 c9]) ∧ Below W.heap.size W w' from fun W hb => (spec_RuleAt wx wy so2 n2 cap2 T X Y so3 n3 cap3 U V Z tm len sp W (RowAt.later hb HR.out) (by omega) (RowAt.later hb HR3.out) (by omega)).mono fun e w' k => ⟨by rw [k.1, hr0, hr1, hc9], k.2⟩)
  by_cases hc0 : c9 = 0
  · subst hc0
    obtain ⟨o1, o2⟩ := ruC_ok hc9.symm
    obtain ⟨g1, g2⟩ := bo_hull o1
    obtain ⟨_, g3⟩ := bo_hull o2
    obtain ⟨i1, i2⟩ := bo_track o1
    have hok : ruOk wx wy n2 T X Y n3 U V Z tm len sp = true := by unfold ruOk; rw [o1, o2]; rfl
    have K3 := fun W (hb : Below w1.heap.size w1 W) => impl_BoatAt_ok wx wy so2 n2 cap2 T X Y tm len sp W (RowAt.later hb HR.out) (by omega) o1 (by rcases bo_two wx wy n2 T X Y tm len sp with ⟨k, _⟩ | ⟨_, k⟩; (rw [o1] at k; cases k); exact k)
    have K4 := fun W (hb : Below w1.heap.size w1 W) => impl_BoatAt_ok wx wy so3 n3 cap3 U V Z tm len sp W (RowAt.later hb HR3.out) (by omega) o2 (by rcases bo_two wx wy n3 U V Z tm len sp with ⟨k, _⟩ | ⟨_, k⟩; (rw [o2] at k; cases k); exact k)
    have K6 := fun W (hb : Below w1.heap.size w1 W) => impl_PositionAt_ok so2 n2 cap2 T X Y tm W (RowAt.later hb HR.out) i1 i2
    have K5 := fun W => (show Calls Try.prog 9 #[.agg #[.int .i64 wx, .int .i64 wy], .agg #[.int .i64 (posX n2 T X tm), .int .i64 (posX n2 T Y tm), .int .i64 (wayX n2 T X tm), .int .i64 (wayX n2 T Y tm), .int .i64 len, .bool (boB wx wy n2 T X Y tm len sp)], .agg #[.int .i64 (posX n3 U V tm), .int .i64 (posX n3 U Z tm), .int .i64 (wayX n3 U V tm), .int .i64 (wayX n3 U Z tm), .int .i64 len, .bool (boB wx wy n3 U V Z tm len sp)]] W fun e w' => e = .returned (.tuple #[.agg #[.int .i64 r0, .int .i64 r1], .int .i64 0]) ∧ Below W.heap.size W w' from (impl_RuleOn wx wy _ _ _ _ _ _ _ _ _ _ _ _ W).mono fun e w' k => ⟨by rw [k.1, g1, g2, g3, hr0, hr1, hok]; rfl, k.2⟩)
    have hbo1 : ∃ b, b = boB wx wy n2 T X Y tm len sp := ⟨_, rfl⟩
    obtain ⟨b1, hb1⟩ := hbo1
    have hbo2 : ∃ b, b = boB wx wy n3 U V Z tm len sp := ⟨_, rfl⟩
    obtain ⟨b2', hb2⟩ := hbo2
    clear hok g1 g2 g3 i1 i2 o1 o2 hr0 hr1 hc9
    try rw [← hb1] at K3
    try rw [← hb2] at K4
    rw [← hb1, ← hb2] at K5
    clear hb1 hb2
    generalize posX n2 T X tm = p0 at *
    generalize posX n2 T Y tm = p1 at *
    generalize wayX n2 T X tm = h0 at *
    generalize wayX n2 T Y tm = h1 at *
    generalize posX n3 U V tm = q0 at *
    generalize posX n3 U Z tm = q1 at *
    generalize wayX n3 U V tm = h2 at *
    generalize wayX n3 U Z tm = h3 at *
    have K3 := hide K3
    have K4 := hide K4
    have K5 := hide K5
    have K6 := hide K6
    go_wp2_with fail; (with_reducible refine (K1.out _ bwz).mono ?_); rintro e w2 ⟨rfl, hbw2⟩; obtain ⟨hcw2, hfw2⟩ := bcell hbw2; have hzw2 := hbw2.size; have zzw20 : w1.heap.size < w2.heap.size := (by first | omega | (simp at hzw2; omega)); have zzw21 : w1.heap.size + 1 < w2.heap.size := (by first | omega | (simp at hzw2; omega)); have zzw22 : w1.heap.size + 1 + 1 < w2.heap.size := (by first | omega | (simp at hzw2; omega))
    go_wp2_with fail; (with_reducible refine (K2.out _ bwz).mono ?_); rintro e w3 ⟨rfl, hbw3⟩; obtain ⟨hcw3, hfw3⟩ := bcell hbw3; have hzw3 := hbw3.size; have zzw30 : w1.heap.size < w3.heap.size := (by first | omega | (simp at hzw3; omega)); have zzw31 : w1.heap.size + 1 < w3.heap.size := (by first | omega | (simp at hzw3; omega)); have zzw32 : w1.heap.size + 1 + 1 < w3.heap.size := (by first | omega | (simp at hzw3; omega)); have zzw33 : w2.heap.size < w3.heap.size := (by first | omega | (simp at hzw3; omega))
    go_wp2_with fail; (with_reducible refine (K3.out _ bwz).mono ?_); rintro e w4 ⟨rfl, hbw4⟩; obtain ⟨hcw4, hfw4⟩ := bcell hbw4; have hzw4 := hbw4.size; have zzw40 : w1.heap.size < w4.heap.size := (by first | omega | (simp at hzw4; omega)); have zzw41 : w1.heap.size + 1 < w4.heap.size := (by first | omega | (simp at hzw4; omega)); have zzw42 : w1.heap.size + 1 + 1 < w4.heap.size := (by first | omega | (simp at hzw4; omega)); have zzw43 : w2.heap.size < w4.heap.size := (by first | omega | (simp at hzw4; omega)); have zzw44 : w3.heap.size < w4.heap.size := (by first | omega | (simp at hzw4; omega))
    go_wp2_with fail; (with_reducible refine (K4.out _ bwz).mono ?_); rintro e w5 ⟨rfl, hbw5⟩; obtain ⟨hcw5, hfw5⟩ := bcell hbw5; have hzw5 := hbw5.size; have zzw50 : w1.heap.size < w5.heap.size := (by first | omega | (simp at hzw5; omega)); have zzw51 : w1.heap.size + 1 < w5.heap.size := (by first | omega | (simp at hzw5; omega)); have zzw52 : w1.heap.size + 1 + 1 < w5.heap.size := (by first | omega | (simp at hzw5; omega)); have zzw53 : w2.heap.size < w5.heap.size := (by first | omega | (simp at hzw5; omega)); have zzw54 : w3.heap.size < w5.heap.size := (by first | omega | (simp at hzw5; omega)); have zzw55 : w4.heap.size < w5.heap.size := (by first | omega | (simp at hzw5; omega))
    go_wp2_with fail; (with_reducible refine (K5.out _).mono ?_); rintro e w6 ⟨rfl, hbw6⟩; obtain ⟨hcw6, hfw6⟩ := bcell hbw6; have hzw6 := hbw6.size; have zzw60 : w1.heap.size < w6.heap.size := (by first | omega | (simp at hzw6; omega)); have zzw61 : w1.heap.size + 1 < w6.heap.size := (by first | omega | (simp at hzw6; omega)); have zzw62 : w1.heap.size + 1 + 1 < w6.heap.size := (by first | omega | (simp at hzw6; omega)); have zzw63 : w2.heap.size < w6.heap.size := (by first | omega | (simp at hzw6; omega)); have zzw64 : w3.heap.size < w6.heap.size := (by first | omega | (simp at hzw6; omega)); have zzw65 : w4.heap.size < w6.heap.size := (by first | omega | (simp at hzw6; omega)); have zzw66 : w5.heap.size < w6.heap.size := (by first | omega | (simp at hzw6; omega))
    go_wp2_with fail; (with_reducible refine (K6.out _ bwz).mono ?_); rintro e w7 ⟨rfl, hbw7⟩; obtain ⟨hcw7, hfw7⟩ := bcell hbw7; have hzw7 := hbw7.size; have zzw70 : w1.heap.size < w7.heap.size := (by first | omega | (simp at hzw7; omega)); have zzw71 : w1.heap.size + 1 < w7.heap.size := (by first | omega | (simp at hzw7; omega)); have zzw72 : w1.heap.size + 1 + 1 < w7.heap.size := (by first | omega | (simp at hzw7; omega)); have zzw73 : w2.heap.size < w7.heap.size := (by first | omega | (simp at hzw7; omega)); have zzw74 : w3.heap.size < w7.heap.size := (by first | omega | (simp at hzw7; omega)); have zzw75 : w4.heap.size < w7.heap.size := (by first | omega | (simp at hzw7; omega)); have zzw76 : w5.heap.size < w7.heap.size := (by first | omega | (simp at hzw7; omega)); have zzw77 : w6.heap.size < w7.heap.size := (by first | omega | (simp at hzw7; omega))
    have hb1 := HB1.out
    go_wp2
    go_ret
    exact ⟨rfl, bwz⟩
  · have hcb : (c9 == 0) = false := beq_eq_false_iff_ne.2 hc0
    have hcb2 : (c9 != 0) = true := bne_iff_ne.2 hc0
    clear hc9 hr0 hr1
    have hb1 := HB1.out
    go_wp2_with fail; (with_reducible refine (K1.out _ bwz).mono ?_); rintro e w2 ⟨rfl, hbw2⟩; obtain ⟨hcw2, hfw2⟩ := bcell hbw2; have hzw2 := hbw2.size; have zzw20 : w1.heap.size < w2.heap.size := (by first | omega | (simp at hzw2; omega)); have zzw21 : w1.heap.size + 1 < w2.heap.size := (by first | omega | (simp at hzw2; omega)); have zzw22 : w1.heap.size + 1 + 1 < w2.heap.size := (by first | omega | (simp at hzw2; omega))
    go_wp2_with fail; (with_reducible refine (K2.out _ bwz).mono ?_); rintro e w3 ⟨rfl, hbw3⟩; obtain ⟨hcw3, hfw3⟩ := bcell hbw3; have hzw3 := hbw3.size; have zzw30 : w1.heap.size < w3.heap.size := (by first | omega | (simp at hzw3; omega)); have zzw31 : w1.heap.size + 1 < w3.heap.size := (by first | omega | (simp at hzw3; omega)); have zzw32 : w1.heap.size + 1 + 1 < w3.heap.size := (by first | omega | (simp at hzw3; omega)); have zzw33 : w2.heap.size < w3.heap.size := (by first | omega | (simp at hzw3; omega))
    go_wp2
    go_ret
    exact ⟨rfl, bwz⟩

set_option maxRecDepth 100000 in
theorem FnRuleAt_lifted (os : Os) (started : os.Started) (H : Type) (enc : TypeId × Value → H) :
    ReturnsInHanded {} Try.checked os 3 .any (Rows.fnRuleAtSpec.pre6 enc Try.prog Try.f3 Rows.fnRuleAtRow.domain false) (Rows.fnRuleAtSpec.post enc Try.prog Try.f3 false true false false) := by
  refine returnsInHanded_of_change (C := Try.checked) Try.own started (by as_aux_lemma => kernel_rfl) Try.func3
    (ChangeSpec.witness6 (enc := enc) (C := Try.checked) false ⟨#[], #[.slice none 0 0], []⟩ 8 (by as_aux_lemma => kernel_rfl) (by as_aux_lemma => kernel_rfl) (by as_aux_lemma => kernel_rfl) (by as_aux_lemma => kernel_rfl)) ?_
  intro W base args ds gs before hval0 hW _ _
  have hval : ∀ (j : Nat) t v, Try.f3.params[j]? = some t → args[j]? = some v → Value.okWide Try.prog W .any base t v := hval0
  have hW' := hW
  obtain ⟨p, q, hA0, hV, rfl, _, _⟩ := hW
  have hA : DataW.TrodAll enc Try.prog W 0 (fun _ => true) true Try.f3.params.toList args.toList ds p := hA0
  rw [Try.params3] at hA hval
  obtain ⟨v0, vs0, d0, ds0, p0, q0, hargs, rfl, rfl, h0, r0⟩ := trodAll_cons hA
  obtain ⟨rfl, rfl, rfl⟩ := trodAll_nil r0
  obtain rfl : args = #[v0] := by cases args; simp_all
  obtain ⟨so0, n0, cp0, B0, rfl, hl0, hr0, hB0⟩ := op_bytes (hval 0 22 v0 rfl rfl) h0
  obtain ⟨rfl, rfl⟩ := trodVars_none hV
  refine (laws_FnRuleAt so0 n0 cp0 B0 W hl0 hr0 hB0).mono fun e W1 ⟨he, hb⟩ => ⟨_, he, ?_⟩
  exact law_post Try.laidOut (by as_aux_lemma => kernel_rfl) Try.underlying4 rfl rfl hW' rfl rfl rfl hb
set_option maxHeartbeats 8000000 in
theorem FnRuleAt_closed : joinedFacts Try.prog 3 Try.f3 Rows.fnRuleAtSpec Rows.fnRuleAtRow = true := by
  simp only [joinedFacts, Bool.and_eq_true, Try.laidOut, Try.mapsRowed, Try.stopsNone, Try.stopKnobsNone, Try.plainKeysIs, Try.stopsHeardIs, Try.mayEnterIs, Try.liftsFinalIs, Try.makeIs, and_true, true_and]
  repeat' (with_reducible refine And.intro ?_ ?_)
  all_goals (as_aux_lemma => kernel_rfl)
set_option maxHeartbeats 8000000 in
/-- FnRuleAt: whatever the input, the law returns true, and the input reads as it did. -/
theorem FnRuleAt_holds : Rows.FnRuleAtSaid :=
  OpenClaim.holds_of_wide 3 Try.f3 rfl rfl rfl rfl rfl rfl rfl ⟨rfl, rfl, rfl, rfl, rfl⟩ rfl rfl rfl rfl rfl (by as_aux_lemma => kernel_rfl) Try.func3
    FnRuleAt_closed
    (of_decide_eq_true (by as_aux_lemma => kernel_rfl)) (by unfold Func.isWrapper; rw [if_neg (of_decide_eq_false (by as_aux_lemma => kernel_rfl))]; exact ⟨rfl, rfl⟩)
    (fun os started H enc _ => FnRuleAt_lifted os started H enc)
#print axioms FnRuleAt_holds
end Go.Proofs.Ytndlpoffpcpnkaa
