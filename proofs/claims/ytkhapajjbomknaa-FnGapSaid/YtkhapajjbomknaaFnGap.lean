/- FnGap holds: a hull that is clear astern has no negative gap, and its stern lies behind its bow by its length; for every code. No condition. -/
import Derived.Test.YtkhapajjbomknaaDu
import Derived.Test.YtkhapajjbomknaaG
import Derived.Test.YtkhapajjbomknaaH
import Derived.Test.YtkhapajjbomknaaLaw
import Derived.Test.YtkhapajjbomknaaLb
namespace Go.Proofs.Ytkhapajjbomknaa
open Go.ChangeShapes Go.WideShapes Go.ChangeAt Go.RowKit

theorem gap_self (ax ay hx hy l : Int) : gapI ax ay hx hy l ax ay = -l := by
  unfold gapI ahd
  rw [Int.sub_self, Int.sub_self, Int.zero_mul, Int.zero_mul, Int.add_zero, Int.neg_zero, Int.zero_ediv]
  omega
theorem gap_clear {ax ay hx hy l bx bY : Int} (hh : isHu ax ay hx hy l = true) (hc : clr hx hy l (ahd ax ay hx hy bx bY) = true) : 0 ≤ gapI ax ay hx hy l bx bY := by
  obtain ⟨_, hd, l1, l2⟩ := isHu_t hh
  obtain ⟨q1, q2, q3, q4, q5⟩ := hd_sq hd
  have hr := rt_pos q5
  have hs := (rt_spec (n := hx * hx + hy * hy) (by omega)).1
  simp only [clr, decide_eq_true_eq] at hc
  obtain ⟨c1, c2⟩ := hc
  unfold gapI
  generalize ahd ax ay hx hy bx bY = d at *
  generalize rt (hx * hx + hy * hy) = r at *
  generalize hx * hx + hy * hy = q at *
  have k1 : l * r ≤ -d := by
    rcases Int.lt_or_le (-d) (l * r) with k | k
    · exfalso
      have k2 : (-d) * (-d) ≤ (l * r) * (l * r) := Int.mul_le_mul (by omega) (by omega) (by omega) (Int.mul_nonneg (by omega) (by omega))
      have k3 : (l * r) * (l * r) = l * l * (r * r) := by grind
      have k4 : l * l * (r * r) ≤ l * l * q := Int.mul_le_mul_of_nonneg_left hs (Int.mul_nonneg (by omega) (by omega))
      have k5 : (-d) * (-d) = d * d := by grind
      omega
    · exact k
  have k6 : l ≤ -d / r := (Int.le_ediv_iff_mul_le (by omega)).2 k1
  omega
set_option maxRecDepth 100000 in
set_option maxHeartbeats 40000000 in
theorem laws_FnGap (so : Option Addr) (n cap : Nat) (B : Nat → Int) (w : World) (hl : n ≤ maxLen) (h : RowAt w so n 1 (vb B)) (hB : ∀ i, 0 ≤ B i ∧ B i ≤ 255) :
    Calls Try.prog 7 #[.slice so n cap] w fun e w' => e = .returned (.bool true) ∧ Below w.heap.size w w' := by
  unfold maxLen at hl
  by_cases hn : 4096 < n
  · have Hd := hide (decide_eq_true hn)
    go_enter Try.func7, Try.ntmps7
    go_wp2_with (go_at_call 10; (with_reducible refine (laws_big _ _ _ _ (by omega)).mono ?_); rintro e w9 ⟨rfl, rfl⟩; rw [Hd.out])
    go_ret
    exact ⟨rfl, (by repeat (first | with_reducible exact Below.refl _ _ | with_reducible assumption | with_reducible refine Below.drew ?_ | with_reducible refine below_drewN ?_ _ | with_reducible refine Below.setCell ?_ (by first | exact Nat.le_refl _ | (simp; done) | (simp; omega) | (dsimp only; omega)) _ | with_reducible refine Below.alloc ?_ (by first | exact Nat.le_refl _ | (simp; done) | (simp; omega) | (simp at *; omega)) _ | with_reducible refine bstep ?_ (by assumption)))⟩
  have Hd := hide (decide_eq_false hn)
  go_enter Try.func7, Try.ntmps7
  go_wp2_with fail; (with_reducible refine (laws_big _ _ _ _ (by omega)).mono ?_); rintro e w0 ⟨rfl, rfl⟩; rw [Hd.out]
  go_wp2_with fail; (with_reducible refine (spec_DrawGapBehind so n cap B _ h hB (by omega)).mono ?_); rintro e w1 ⟨⟨a, b, c, d, l, a', b', c', d', l', rfl⟩, hb1⟩; have hz1 := hb1.size
  rcases b2 (isHu a b c d l && isHu a' b' c' d' l') with g1 | g1
  · have K1 := hide (show ∀ W, Calls Try.prog 31 #[.agg #[.int .i64 a, .int .i64 b, .int .i64 c, .int .i64 d, .int .i64 l], .agg #[.int .i64 (a'), .int .i64 (b'), .int .i64 (c'), .int .i64 (d'), .int .i64 (l')]] W fun e w' => e = .returned (.tuple #[.int .i64 0, .int .i64 1]) ∧ Below W.heap.size W w' from fun W => (impl_GapBehind a b c d l a' b' c' d' l' W).mono fun e w' k => ⟨by rw [k.1, g1]; rfl, k.2⟩)
    have K2 := hide (show ∀ W, Calls Try.prog 32 #[.agg #[.int .i64 a, .int .i64 b, .int .i64 c, .int .i64 d, .int .i64 l], .agg #[.int .i64 (a'), .int .i64 (b'), .int .i64 (c'), .int .i64 (d'), .int .i64 (l')]] W fun e w' => e = .returned (.tuple #[.int .i64 0, .int .i64 1]) ∧ Below W.heap.size W w' from fun W => (spec_GapBehind a b c d l a' b' c' d' l' W).mono fun e w' k => ⟨by rw [k.1, g1]; rfl, k.2⟩)
    clear g1
    go_wp2_with fail; (with_reducible refine (K1.out _).mono ?_); rintro e w2 ⟨rfl, hbw2⟩; obtain ⟨hcw2, hfw2⟩ := bcell hbw2; have hzw2 := hbw2.size; have zzw20 : w1.heap.size < w2.heap.size := (by first | omega | (simp at hzw2; omega)); have zzw21 : w1.heap.size + 1 < w2.heap.size := (by first | omega | (simp at hzw2; omega))
    go_wp2_with fail; (with_reducible refine (K2.out _).mono ?_); rintro e w3 ⟨rfl, hbw3⟩; obtain ⟨hcw3, hfw3⟩ := bcell hbw3; have hzw3 := hbw3.size; have zzw30 : w1.heap.size < w3.heap.size := (by first | omega | (simp at hzw3; omega)); have zzw31 : w1.heap.size + 1 < w3.heap.size := (by first | omega | (simp at hzw3; omega))
    go_wp2
    go_ret
    exact ⟨rfl, (by repeat (first | with_reducible exact Below.refl _ _ | with_reducible assumption | with_reducible refine Below.drew ?_ | with_reducible refine below_drewN ?_ _ | with_reducible refine Below.setCell ?_ (by first | exact Nat.le_refl _ | (simp; done) | (simp; omega) | (dsimp only; omega)) _ | with_reducible refine Below.alloc ?_ (by first | exact Nat.le_refl _ | (simp; done) | (simp; omega) | (simp at *; omega)) _ | with_reducible refine bstep ?_ (by assumption)))⟩
  have gh : isHu a b c d l = true := by rw [Bool.and_eq_true] at g1; exact g1.1
  have g2 : (isHu a b c d l && isHu a b c d l) = true := by rw [gh]; rfl
  obtain ⟨_, _, l1, l2⟩ := isHu_t gh
  have hgc := fun e => gap_clear (bx := a') (bY := b') gh e
  obtain ⟨gv, hgv⟩ : ∃ x, x = gapI a b c d l a' b' := ⟨_, rfl⟩
  rw [← hgv] at hgc
  have K1 := hide (show ∀ W, Calls Try.prog 31 #[.agg #[.int .i64 a, .int .i64 b, .int .i64 c, .int .i64 d, .int .i64 l], .agg #[.int .i64 (a'), .int .i64 (b'), .int .i64 (c'), .int .i64 (d'), .int .i64 (l')]] W fun e w' => e = .returned (.tuple #[.int .i64 gv, .int .i64 0]) ∧ Below W.heap.size W w' from fun W => (impl_GapBehind a b c d l a' b' c' d' l' W).mono fun e w' k => ⟨by rw [k.1, g1, hgv]; rfl, k.2⟩)
  have K2 := hide (show ∀ W, Calls Try.prog 32 #[.agg #[.int .i64 a, .int .i64 b, .int .i64 c, .int .i64 d, .int .i64 l], .agg #[.int .i64 (a'), .int .i64 (b'), .int .i64 (c'), .int .i64 (d'), .int .i64 (l')]] W fun e w' => e = .returned (.tuple #[.int .i64 gv, .int .i64 0]) ∧ Below W.heap.size W w' from fun W => (spec_GapBehind a b c d l a' b' c' d' l' W).mono fun e w' k => ⟨by rw [k.1, g1, hgv]; rfl, k.2⟩)
  have K4 := hide (show ∀ W, Calls Try.prog 31 #[.agg #[.int .i64 a, .int .i64 b, .int .i64 c, .int .i64 d, .int .i64 l], .agg #[.int .i64 a, .int .i64 b, .int .i64 c, .int .i64 d, .int .i64 l]] W fun e w' => e = .returned (.tuple #[.int .i64 (-l), .int .i64 0]) ∧ Below W.heap.size W w' from fun W => (impl_GapBehind a b c d l a b c d l W).mono fun e w' k => ⟨by rw [k.1, g2, gap_self]; rfl, k.2⟩)
  obtain ⟨s1, hs1⟩ : ∃ x, x = stn a c l (rt (c * c + d * d)) := ⟨_, rfl⟩
  obtain ⟨s2, hs2⟩ : ∃ x, x = stn b d l (rt (c * c + d * d)) := ⟨_, rfl⟩
  have K5 := hide (show ∀ W, Calls Try.prog 33 #[.agg #[.int .i64 a, .int .i64 b, .int .i64 c, .int .i64 d, .int .i64 l]] W fun e w' => e = .returned (.tuple #[.agg #[.int .i64 s1, .int .i64 s2], .int .i64 0]) ∧ Below W.heap.size W w' from fun W => (impl_SternOf a b c d l W).mono fun e w' k => ⟨by rw [k.1, gh, hs1, hs2]; rfl, k.2⟩)
  have K6 := hide (show ∀ W, Calls Try.prog 34 #[.agg #[.int .i64 a, .int .i64 b, .int .i64 c, .int .i64 d, .int .i64 l]] W fun e w' => e = .returned (.tuple #[.agg #[.int .i64 s1, .int .i64 s2], .int .i64 0]) ∧ Below W.heap.size W w' from fun W => (spec_SternOf a b c d l W).mono fun e w' k => ⟨by rw [k.1, gh, hs1, hs2]; rfl, k.2⟩)
  rcases b2 (clr c d l (ahd a b c d a' b')) with gA | gA
  · have K3 := hide (show ∀ W, Calls Try.prog 18 #[.agg #[.int .i64 a, .int .i64 b, .int .i64 c, .int .i64 d, .int .i64 l], .agg #[.int .i64 (a'), .int .i64 (b'), .int .i64 (c'), .int .i64 (d'), .int .i64 (l')]] W fun e w' => e = .returned (.tuple #[.bool false, .int .i64 0]) ∧ Below W.heap.size W w' from fun W => (impl_ClearAstern a b c d l a' b' c' d' l' W).mono fun e w' k => ⟨by rw [k.1, g1, gA]; rfl, k.2⟩)
    clear hgc hgv hs1 hs2 g1 g2 gA gh
    go_wp2_with fail; (with_reducible refine (K1.out _).mono ?_); rintro e w2 ⟨rfl, hbw2⟩; obtain ⟨hcw2, hfw2⟩ := bcell hbw2; have hzw2 := hbw2.size; have zzw20 : w1.heap.size < w2.heap.size := (by first | omega | (simp at hzw2; omega)); have zzw21 : w1.heap.size + 1 < w2.heap.size := (by first | omega | (simp at hzw2; omega))
    go_wp2_with fail; (with_reducible refine (K2.out _).mono ?_); rintro e w3 ⟨rfl, hbw3⟩; obtain ⟨hcw3, hfw3⟩ := bcell hbw3; have hzw3 := hbw3.size; have zzw30 : w1.heap.size < w3.heap.size := (by first | omega | (simp at hzw3; omega)); have zzw31 : w1.heap.size + 1 < w3.heap.size := (by first | omega | (simp at hzw3; omega))
    go_wp2_with fail; (with_reducible refine (K3.out _).mono ?_); rintro e w4 ⟨rfl, hbw4⟩; obtain ⟨hcw4, hfw4⟩ := bcell hbw4; have hzw4 := hbw4.size; have zzw40 : w1.heap.size < w4.heap.size := (by first | omega | (simp at hzw4; omega)); have zzw41 : w1.heap.size + 1 < w4.heap.size := (by first | omega | (simp at hzw4; omega))
    go_wp2_with fail; (with_reducible refine (K4.out _).mono ?_); rintro e w5 ⟨rfl, hbw5⟩; obtain ⟨hcw5, hfw5⟩ := bcell hbw5; have hzw5 := hbw5.size; have zzw50 : w1.heap.size < w5.heap.size := (by first | omega | (simp at hzw5; omega)); have zzw51 : w1.heap.size + 1 < w5.heap.size := (by first | omega | (simp at hzw5; omega))
    go_wp2_with fail; (with_reducible refine (K5.out _).mono ?_); rintro e w6 ⟨rfl, hbw6⟩; obtain ⟨hcw6, hfw6⟩ := bcell hbw6; have hzw6 := hbw6.size; have zzw60 : w1.heap.size < w6.heap.size := (by first | omega | (simp at hzw6; omega)); have zzw61 : w1.heap.size + 1 < w6.heap.size := (by first | omega | (simp at hzw6; omega))
    go_wp2_with fail; (with_reducible refine (K6.out _).mono ?_); rintro e w7 ⟨rfl, hbw7⟩; obtain ⟨hcw7, hfw7⟩ := bcell hbw7; have hzw7 := hbw7.size; have zzw70 : w1.heap.size < w7.heap.size := (by first | omega | (simp at hzw7; omega)); have zzw71 : w1.heap.size + 1 < w7.heap.size := (by first | omega | (simp at hzw7; omega)); have zzw72 : w6.heap.size < w7.heap.size := (by first | omega | (simp at hzw7; omega))
    go_wp2
    go_ret
    exact ⟨rfl, (by repeat (first | with_reducible exact Below.refl _ _ | with_reducible assumption | with_reducible refine Below.drew ?_ | with_reducible refine below_drewN ?_ _ | with_reducible refine Below.setCell ?_ (by first | exact Nat.le_refl _ | (simp; done) | (simp; omega) | (dsimp only; omega)) _ | with_reducible refine Below.alloc ?_ (by first | exact Nat.le_refl _ | (simp; done) | (simp; omega) | (simp at *; omega)) _ | with_reducible refine bstep ?_ (by assumption)))⟩
  · have K3 := hide (show ∀ W, Calls Try.prog 18 #[.agg #[.int .i64 a, .int .i64 b, .int .i64 c, .int .i64 d, .int .i64 l], .agg #[.int .i64 (a'), .int .i64 (b'), .int .i64 (c'), .int .i64 (d'), .int .i64 (l')]] W fun e w' => e = .returned (.tuple #[.bool true, .int .i64 0]) ∧ Below W.heap.size W w' from fun W => (impl_ClearAstern a b c d l a' b' c' d' l' W).mono fun e w' k => ⟨by rw [k.1, g1, gA]; rfl, k.2⟩)
    have hpos := hgc gA
    clear hgc hgv hs1 hs2 g1 g2 gA gh
    go_wp2_with fail; (with_reducible refine (K1.out _).mono ?_); rintro e w2 ⟨rfl, hbw2⟩; obtain ⟨hcw2, hfw2⟩ := bcell hbw2; have hzw2 := hbw2.size; have zzw20 : w1.heap.size < w2.heap.size := (by first | omega | (simp at hzw2; omega)); have zzw21 : w1.heap.size + 1 < w2.heap.size := (by first | omega | (simp at hzw2; omega))
    go_wp2_with fail; (with_reducible refine (K2.out _).mono ?_); rintro e w3 ⟨rfl, hbw3⟩; obtain ⟨hcw3, hfw3⟩ := bcell hbw3; have hzw3 := hbw3.size; have zzw30 : w1.heap.size < w3.heap.size := (by first | omega | (simp at hzw3; omega)); have zzw31 : w1.heap.size + 1 < w3.heap.size := (by first | omega | (simp at hzw3; omega))
    go_wp2_with fail; (with_reducible refine (K3.out _).mono ?_); rintro e w4 ⟨rfl, hbw4⟩; obtain ⟨hcw4, hfw4⟩ := bcell hbw4; have hzw4 := hbw4.size; have zzw40 : w1.heap.size < w4.heap.size := (by first | omega | (simp at hzw4; omega)); have zzw41 : w1.heap.size + 1 < w4.heap.size := (by first | omega | (simp at hzw4; omega))
    go_wp2_with fail; (with_reducible refine (K4.out _).mono ?_); rintro e w5 ⟨rfl, hbw5⟩; obtain ⟨hcw5, hfw5⟩ := bcell hbw5; have hzw5 := hbw5.size; have zzw50 : w1.heap.size < w5.heap.size := (by first | omega | (simp at hzw5; omega)); have zzw51 : w1.heap.size + 1 < w5.heap.size := (by first | omega | (simp at hzw5; omega))
    go_wp2_with fail; (with_reducible refine (K5.out _).mono ?_); rintro e w6 ⟨rfl, hbw6⟩; obtain ⟨hcw6, hfw6⟩ := bcell hbw6; have hzw6 := hbw6.size; have zzw60 : w1.heap.size < w6.heap.size := (by first | omega | (simp at hzw6; omega)); have zzw61 : w1.heap.size + 1 < w6.heap.size := (by first | omega | (simp at hzw6; omega))
    go_wp2_with fail; (with_reducible refine (K6.out _).mono ?_); rintro e w7 ⟨rfl, hbw7⟩; obtain ⟨hcw7, hfw7⟩ := bcell hbw7; have hzw7 := hbw7.size; have zzw70 : w1.heap.size < w7.heap.size := (by first | omega | (simp at hzw7; omega)); have zzw71 : w1.heap.size + 1 < w7.heap.size := (by first | omega | (simp at hzw7; omega)); have zzw72 : w6.heap.size < w7.heap.size := (by first | omega | (simp at hzw7; omega))
    go_wp2
    go_ret
    exact ⟨rfl, (by repeat (first | with_reducible exact Below.refl _ _ | with_reducible assumption | with_reducible refine Below.drew ?_ | with_reducible refine below_drewN ?_ _ | with_reducible refine Below.setCell ?_ (by first | exact Nat.le_refl _ | (simp; done) | (simp; omega) | (dsimp only; omega)) _ | with_reducible refine Below.alloc ?_ (by first | exact Nat.le_refl _ | (simp; done) | (simp; omega) | (simp at *; omega)) _ | with_reducible refine bstep ?_ (by assumption)))⟩

set_option maxRecDepth 100000 in
theorem FnGap_lifted (os : Os) (started : os.Started) (H : Type) (enc : TypeId × Value → H) :
    ReturnsInHanded {} Try.checked os 7 .any (Rows.fnGapSpec.pre6 enc Try.prog Try.f7 Rows.fnGapRow.domain false) (Rows.fnGapSpec.post enc Try.prog Try.f7 false true false false) := by
  refine returnsInHanded_of_change (C := Try.checked) Try.own started (by as_aux_lemma => kernel_rfl) Try.func7
    (ChangeSpec.witness6 (enc := enc) (C := Try.checked) false ⟨#[], #[.slice none 0 0], []⟩ 8 (by as_aux_lemma => kernel_rfl) (by as_aux_lemma => kernel_rfl) (by as_aux_lemma => kernel_rfl) (by as_aux_lemma => kernel_rfl)) ?_
  intro W base args ds gs before hval0 hW _ _
  have hval : ∀ (j : Nat) t v, Try.f7.params[j]? = some t → args[j]? = some v → Value.okWide Try.prog W .any base t v := hval0
  have hW' := hW
  obtain ⟨p, q, hA0, hV, rfl, _, _⟩ := hW
  have hA : DataW.TrodAll enc Try.prog W 0 (fun _ => true) true Try.f7.params.toList args.toList ds p := hA0
  rw [Try.params7] at hA hval
  obtain ⟨v0, vs0, d0, ds0, p0, q0, hargs, rfl, rfl, h0, r0⟩ := trodAll_cons hA
  obtain ⟨rfl, rfl, rfl⟩ := trodAll_nil r0
  obtain rfl : args = #[v0] := by cases args; simp_all
  obtain ⟨so0, n0, cp0, B0, rfl, hl0, hr0, hB0⟩ := op_bytes (hval 0 22 v0 rfl rfl) h0
  obtain ⟨rfl, rfl⟩ := trodVars_none hV
  refine (laws_FnGap so0 n0 cp0 B0 W hl0 hr0 hB0).mono fun e W1 ⟨he, hb⟩ => ⟨_, he, ?_⟩
  exact law_post Try.laidOut (by as_aux_lemma => kernel_rfl) Try.underlying4 rfl rfl hW' rfl rfl rfl hb
set_option maxHeartbeats 8000000 in
theorem FnGap_closed : joinedFacts Try.prog 7 Try.f7 Rows.fnGapSpec Rows.fnGapRow = true := by
  simp only [joinedFacts, Bool.and_eq_true, Try.laidOut, Try.mapsRowed, Try.stopsNone, Try.stopKnobsNone, Try.plainKeysIs, Try.stopsHeardIs, Try.mayEnterIs, Try.liftsFinalIs, Try.makeIs, and_true, true_and]
  repeat' (with_reducible refine And.intro ?_ ?_)
  all_goals (as_aux_lemma => kernel_rfl)
set_option maxHeartbeats 8000000 in
/-- FnGap: whatever the input, the law returns true, and the input reads as it did. -/
theorem FnGap_holds : Rows.FnGapSaid :=
  OpenClaim.holds_of_wide 7 Try.f7 rfl rfl rfl rfl rfl rfl rfl ⟨rfl, rfl, rfl, rfl, rfl⟩ rfl rfl rfl rfl rfl (by as_aux_lemma => kernel_rfl) Try.func7
    FnGap_closed
    (of_decide_eq_true (by as_aux_lemma => kernel_rfl)) (by unfold Func.isWrapper; rw [if_neg (of_decide_eq_false (by as_aux_lemma => kernel_rfl))]; exact ⟨rfl, rfl⟩)
    (fun os started H enc _ => FnGap_lifted os started H enc)
#print axioms FnGap_holds
end Go.Proofs.Ytkhapajjbomknaa
