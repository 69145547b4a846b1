/- FnNear holds: hulls are near to one another in both orders, and at every greater distance; for every code. No condition. -/
import Derived.Test.YtkhapajjbomknaaDz
import Derived.Test.YtkhapajjbomknaaJh
import Derived.Test.YtkhapajjbomknaaJr
import Derived.Test.YtkhapajjbomknaaLaw
import Derived.Test.YtkhapajjbomknaaLb
namespace Go.Proofs.Ytkhapajjbomknaa
open Go.ChangeShapes Go.WideShapes Go.ChangeAt Go.RowKit

theorem meet_swap (ax ay bx bY cx cy dx dy : Int) : meetB ax ay bx bY cx cy dx dy = meetB cx cy dx dy ax ay bx bY := by
  unfold meetB xB
  generalize decide (sgn (crs ax ay bx bY cx cy) * sgn (crs ax ay bx bY dx dy) < 0) = p1
  generalize decide (sgn (crs cx cy dx dy ax ay) * sgn (crs cx cy dx dy bx bY) < 0) = p2
  generalize onB ax ay bx bY cx cy = p3
  generalize onB ax ay bx bY dx dy = p4
  generalize onB cx cy dx dy ax ay = p5
  generalize onB cx cy dx dy bx bY = p6
  cases p1 <;> cases p2 <;> cases p3 <;> cases p4 <;> cases p5 <;> cases p6 <;> rfl
theorem near_swap (ax ay bx bY cx cy dx dy d : Int) : nearB ax ay bx bY cx cy dx dy d = nearB cx cy dx dy ax ay bx bY d := by
  unfold nearB
  rw [meet_swap]
  generalize meetB cx cy dx dy ax ay bx bY = p1
  generalize (wdB cx cy dx dy ax ay d || wdB cx cy dx dy bx bY d) = p2
  generalize (wdB ax ay bx bY cx cy d || wdB ax ay bx bY dx dy d) = p3
  cases p1 <;> cases p2 <;> cases p3 <;> rfl
theorem wd_more {ax ay bx bY px py d : Int} (h0 : 0 ≤ d) (h : wdB ax ay bx bY px py d = true) : wdB ax ay bx bY px py (d + 1) = true := by
  have k : d * d ≤ (d + 1) * (d + 1) := Int.mul_le_mul (by omega) (by omega) h0 (by omega)
  have k2 : d * d * sq ax ay bx bY ≤ (d + 1) * (d + 1) * sq ax ay bx bY := Int.mul_le_mul_of_nonneg_right k (by
    unfold sq
    have h1 := mul_self_nonneg' (ax - bx)
    have h2 := mul_self_nonneg' (ay - bY)
    omega)
  unfold wdB at h ⊢
  generalize (d + 1) * (d + 1) * sq ax ay bx bY = e1 at *
  generalize d * d * sq ax ay bx bY = e2 at *
  generalize (d + 1) * (d + 1) = e3 at *
  generalize d * d = e4 at *
  split at h
  · rename_i c1; rw [if_pos c1]; simp only [decide_eq_true_eq] at h ⊢; omega
  · rename_i c1
    rw [if_neg c1]
    split at h
    · rename_i c2; rw [if_pos c2]; simp only [decide_eq_true_eq] at h ⊢; omega
    · rename_i c2; rw [if_neg c2]; simp only [decide_eq_true_eq] at h ⊢; omega
theorem near_more {ax ay bx bY cx cy dx dy d : Int} (h0 : 0 ≤ d) (h : nearB ax ay bx bY cx cy dx dy d = true) : nearB ax ay bx bY cx cy dx dy (d + 1) = true := by
  unfold nearB at h ⊢
  simp only [Bool.or_eq_true] at h ⊢
  rcases h with (h | h | h) | h | h
  · exact .inl (.inl h)
  · exact .inl (.inr (.inl (wd_more h0 h)))
  · exact .inl (.inr (.inr (wd_more h0 h)))
  · exact .inr (.inl (wd_more h0 h))
  · exact .inr (.inr (wd_more h0 h))
set_option maxRecDepth 100000 in
set_option maxHeartbeats 40000000 in
theorem laws_FnNear (so : Option Addr) (n cap : Nat) (B : Nat → Int) (w : World) (hl : n ≤ maxLen) (h : RowAt w so n 1 (vb B)) (hB : ∀ i, 0 ≤ B i ∧ B i ≤ 255) :
    Calls Try.prog 9 #[.slice so n cap] w fun e w' => e = .returned (.bool true) ∧ Below w.heap.size w w' := by
  unfold maxLen at hl
  by_cases hn : 4096 < n
  · have Hd := hide (decide_eq_true hn)
    go_enter Try.func9, Try.ntmps9
    go_wp2_with (go_at_call 10; (with_reducible refine (laws_big _ _ _ _ (by omega)).mono ?_); rintro e w9 ⟨rfl, rfl⟩; rw [Hd.out])
    go_ret
    exact ⟨rfl, (by repeat (first | with_reducible exact Below.refl _ _ | with_reducible assumption | with_reducible refine Below.drew ?_ | with_reducible refine below_drewN ?_ _ | with_reducible refine Below.setCell ?_ (by first | exact Nat.le_refl _ | (simp; done) | (simp; omega) | (dsimp only; omega)) _ | with_reducible refine Below.alloc ?_ (by first | exact Nat.le_refl _ | (simp; done) | (simp; omega) | (simp at *; omega)) _ | with_reducible refine bstep ?_ (by assumption)))⟩
  have Hd := hide (decide_eq_false hn)
  go_enter Try.func9, Try.ntmps9
  go_wp2_with fail; (with_reducible refine (laws_big _ _ _ _ (by omega)).mono ?_); rintro e w0 ⟨rfl, rfl⟩; rw [Hd.out]
  go_wp2_with fail; (with_reducible refine (spec_DrawHullsNear so n cap B _ h hB (by omega)).mono ?_); rintro e w1 ⟨⟨a, b, c, d, l, a', b', c', d', l', q, rfl⟩, hb1⟩; have hz1 := hb1.size
  rcases b2 (isHu a b c d l && isHu a' b' c' d' l') with g1 | g1
  · have K1 := hide (show ∀ W, Calls Try.prog 39 #[.agg #[.int .i64 a, .int .i64 b, .int .i64 c, .int .i64 d, .int .i64 l], .agg #[.int .i64 (a'), .int .i64 (b'), .int .i64 (c'), .int .i64 (d'), .int .i64 (l')], .int .i64 q] W fun e w' => e = .returned (.tuple #[.bool false, .int .i64 1]) ∧ Below W.heap.size W w' from fun W => (impl_HullsNear a b c d l a' b' c' d' l' q W).mono fun e w' k => ⟨by rw [k.1, g1]; rfl, k.2⟩)
    have K2 := hide (show ∀ W, Calls Try.prog 40 #[.agg #[.int .i64 a, .int .i64 b, .int .i64 c, .int .i64 d, .int .i64 l], .agg #[.int .i64 (a'), .int .i64 (b'), .int .i64 (c'), .int .i64 (d'), .int .i64 (l')], .int .i64 q] W fun e w' => e = .returned (.tuple #[.bool false, .int .i64 1]) ∧ Below W.heap.size W w' from fun W => (spec_HullsNear a b c d l a' b' c' d' l' q W).mono fun e w' k => ⟨by rw [k.1, g1]; rfl, k.2⟩)
    clear g1
    go_wp2_with fail; (with_reducible refine (K1.out _).mono ?_); rintro e w2 ⟨rfl, hbw2⟩; obtain ⟨hcw2, hfw2⟩ := bcell hbw2; have hzw2 := hbw2.size; have zzw20 : w1.heap.size < w2.heap.size := (by first | omega | (simp at hzw2; omega)); have zzw21 : w1.heap.size + 1 < w2.heap.size := (by first | omega | (simp at hzw2; omega))
    go_wp2_with fail; (with_reducible refine (K2.out _).mono ?_); rintro e w3 ⟨rfl, hbw3⟩; obtain ⟨hcw3, hfw3⟩ := bcell hbw3; have hzw3 := hbw3.size; have zzw30 : w1.heap.size < w3.heap.size := (by first | omega | (simp at hzw3; omega)); have zzw31 : w1.heap.size + 1 < w3.heap.size := (by first | omega | (simp at hzw3; omega))
    go_wp2
    go_ret
    exact ⟨rfl, (by repeat (first | with_reducible exact Below.refl _ _ | with_reducible assumption | with_reducible refine Below.drew ?_ | with_reducible refine below_drewN ?_ _ | with_reducible refine Below.setCell ?_ (by first | exact Nat.le_refl _ | (simp; done) | (simp; omega) | (dsimp only; omega)) _ | with_reducible refine Below.alloc ?_ (by first | exact Nat.le_refl _ | (simp; done) | (simp; omega) | (simp at *; omega)) _ | with_reducible refine bstep ?_ (by assumption)))⟩
  have g2 : (isHu a' b' c' d' l' && isHu a b c d l) = true := by rw [Bool.and_comm]; exact g1
  rcases b2 (inB q 0 10000 && (isSg (stx a c d l) (sty b c d l) a b && isSg (stx a' c' d' l') (sty b' c' d' l') a' b')) with g3 | g3
  · have K1 := hide (show ∀ W, Calls Try.prog 39 #[.agg #[.int .i64 a, .int .i64 b, .int .i64 c, .int .i64 d, .int .i64 l], .agg #[.int .i64 (a'), .int .i64 (b'), .int .i64 (c'), .int .i64 (d'), .int .i64 (l')], .int .i64 q] W fun e w' => e = .returned (.tuple #[.bool false, .int .i64 2]) ∧ Below W.heap.size W w' from fun W => (impl_HullsNear a b c d l a' b' c' d' l' q W).mono fun e w' k => ⟨by rw [k.1, g1, g3]; rfl, k.2⟩)
    have K2 := hide (show ∀ W, Calls Try.prog 40 #[.agg #[.int .i64 a, .int .i64 b, .int .i64 c, .int .i64 d, .int .i64 l], .agg #[.int .i64 (a'), .int .i64 (b'), .int .i64 (c'), .int .i64 (d'), .int .i64 (l')], .int .i64 q] W fun e w' => e = .returned (.tuple #[.bool false, .int .i64 2]) ∧ Below W.heap.size W w' from fun W => (spec_HullsNear a b c d l a' b' c' d' l' q W).mono fun e w' k => ⟨by rw [k.1, g1, g3]; rfl, k.2⟩)
    clear g1 g2 g3
    go_wp2_with fail; (with_reducible refine (K1.out _).mono ?_); rintro e w2 ⟨rfl, hbw2⟩; obtain ⟨hcw2, hfw2⟩ := bcell hbw2; have hzw2 := hbw2.size; have zzw20 : w1.heap.size < w2.heap.size := (by first | omega | (simp at hzw2; omega)); have zzw21 : w1.heap.size + 1 < w2.heap.size := (by first | omega | (simp at hzw2; omega))
    go_wp2_with fail; (with_reducible refine (K2.out _).mono ?_); rintro e w3 ⟨rfl, hbw3⟩; obtain ⟨hcw3, hfw3⟩ := bcell hbw3; have hzw3 := hbw3.size; have zzw30 : w1.heap.size < w3.heap.size := (by first | omega | (simp at hzw3; omega)); have zzw31 : w1.heap.size + 1 < w3.heap.size := (by first | omega | (simp at hzw3; omega))
    go_wp2
    go_ret
    exact ⟨rfl, (by repeat (first | with_reducible exact Below.refl _ _ | with_reducible assumption | with_reducible refine Below.drew ?_ | with_reducible refine below_drewN ?_ _ | with_reducible refine Below.setCell ?_ (by first | exact Nat.le_refl _ | (simp; done) | (simp; omega) | (dsimp only; omega)) _ | with_reducible refine Below.alloc ?_ (by first | exact Nat.le_refl _ | (simp; done) | (simp; omega) | (simp at *; omega)) _ | with_reducible refine bstep ?_ (by assumption)))⟩
  have gq := inB_t (n := q) (lo := 0) (hi := 10000) (by simp only [Bool.and_eq_true] at g3; exact g3.1)
  have gs1 : isSg (stx a c d l) (sty b c d l) a b = true := by simp only [Bool.and_eq_true] at g3; exact g3.2.1
  have gs2 : isSg (stx a' c' d' l') (sty b' c' d' l') a' b' = true := by simp only [Bool.and_eq_true] at g3; exact g3.2.2
  have g4 : (inB q 0 10000 && (isSg (stx a' c' d' l') (sty b' c' d' l') a' b' && isSg (stx a c d l) (sty b c d l) a b)) = true := by rw [gs1, gs2, show inB q 0 10000 = true from decide_eq_true gq]; rfl
  have hsw := near_swap (stx a c d l) (sty b c d l) a b (stx a' c' d' l') (sty b' c' d' l') a' b' q
  obtain ⟨x, hx⟩ : ∃ x, x = nearB (stx a c d l) (sty b c d l) a b (stx a' c' d' l') (sty b' c' d' l') a' b' q := ⟨_, rfl⟩
  rw [← hx] at hsw
  have K1 := hide (show ∀ W, Calls Try.prog 39 #[.agg #[.int .i64 a, .int .i64 b, .int .i64 c, .int .i64 d, .int .i64 l], .agg #[.int .i64 (a'), .int .i64 (b'), .int .i64 (c'), .int .i64 (d'), .int .i64 (l')], .int .i64 q] W fun e w' => e = .returned (.tuple #[.bool x, .int .i64 0]) ∧ Below W.heap.size W w' from fun W => (impl_HullsNear a b c d l a' b' c' d' l' q W).mono fun e w' k => ⟨by rw [k.1, g1, g3, hx]; rfl, k.2⟩)
  have K2 := hide (show ∀ W, Calls Try.prog 40 #[.agg #[.int .i64 a, .int .i64 b, .int .i64 c, .int .i64 d, .int .i64 l], .agg #[.int .i64 (a'), .int .i64 (b'), .int .i64 (c'), .int .i64 (d'), .int .i64 (l')], .int .i64 q] W fun e w' => e = .returned (.tuple #[.bool x, .int .i64 0]) ∧ Below W.heap.size W w' from fun W => (spec_HullsNear a b c d l a' b' c' d' l' q W).mono fun e w' k => ⟨by rw [k.1, g1, g3, hx]; rfl, k.2⟩)
  have K3 := hide (show ∀ W, Calls Try.prog 39 #[.agg #[.int .i64 (a'), .int .i64 (b'), .int .i64 (c'), .int .i64 (d'), .int .i64 (l')], .agg #[.int .i64 a, .int .i64 b, .int .i64 c, .int .i64 d, .int .i64 l], .int .i64 q] W fun e w' => e = .returned (.tuple #[.bool x, .int .i64 0]) ∧ Below W.heap.size W w' from fun W => (impl_HullsNear a' b' c' d' l' a b c d l q W).mono fun e w' k => ⟨by rw [k.1, g2, g4, ← hsw]; rfl, k.2⟩)
  by_cases hq : q = 10000
  · subst hq
    clear g1 g2 g3 g4 gs1 gs2 hsw hx
    go_wp2_with fail; (with_reducible refine (K1.out _).mono ?_); rintro e w2 ⟨rfl, hbw2⟩; obtain ⟨hcw2, hfw2⟩ := bcell hbw2; have hzw2 := hbw2.size; have zzw20 : w1.heap.size < w2.heap.size := (by first | omega | (simp at hzw2; omega)); have zzw21 : w1.heap.size + 1 < w2.heap.size := (by first | omega | (simp at hzw2; omega))
    go_wp2_with fail; (with_reducible refine (K2.out _).mono ?_); rintro e w3 ⟨rfl, hbw3⟩; obtain ⟨hcw3, hfw3⟩ := bcell hbw3; have hzw3 := hbw3.size; have zzw30 : w1.heap.size < w3.heap.size := (by first | omega | (simp at hzw3; omega)); have zzw31 : w1.heap.size + 1 < w3.heap.size := (by first | omega | (simp at hzw3; omega))
    rcases b2 x with hb | hb
    all_goals
      subst hb
      go_wp2
      go_ret
      exact ⟨rfl, (by repeat (first | with_reducible exact Below.refl _ _ | with_reducible assumption | with_reducible refine Below.drew ?_ | with_reducible refine below_drewN ?_ _ | with_reducible refine Below.setCell ?_ (by first | exact Nat.le_refl _ | (simp; done) | (simp; omega) | (dsimp only; omega)) _ | with_reducible refine Below.alloc ?_ (by first | exact Nat.le_refl _ | (simp; done) | (simp; omega) | (simp at *; omega)) _ | with_reducible refine bstep ?_ (by assumption)))⟩
  have g5 : (inB (q + 1) 0 10000 && (isSg (stx a c d l) (sty b c d l) a b && isSg (stx a' c' d' l') (sty b' c' d' l') a' b')) = true := by rw [gs1, gs2, show inB (q + 1) 0 10000 = true from decide_eq_true (by omega)]; rfl
  have hmo := fun e => near_more (ax := stx a c d l) (ay := sty b c d l) (bx := a) (bY := b) (cx := stx a' c' d' l') (cy := sty b' c' d' l') (dx := a') (dy := b') gq.1 e
  obtain ⟨z, hz⟩ : ∃ z, z = nearB (stx a c d l) (sty b c d l) a b (stx a' c' d' l') (sty b' c' d' l') a' b' (q + 1) := ⟨_, rfl⟩
  rw [← hx, ← hz] at hmo
  have K4 := hide (show ∀ W, Calls Try.prog 39 #[.agg #[.int .i64 a, .int .i64 b, .int .i64 c, .int .i64 d, .int .i64 l], .agg #[.int .i64 a', .int .i64 b', .int .i64 c', .int .i64 d', .int .i64 l'], .int .i64 (q + 1)] W fun e w' => e = .returned (.tuple #[.bool z, .int .i64 0]) ∧ Below W.heap.size W w' from fun W => (impl_HullsNear a b c d l a' b' c' d' l' (q + 1) W).mono fun e w' k => ⟨by rw [k.1, g1, g5, hz]; rfl, k.2⟩)
  clear g1 g2 g3 g4 g5 gs1 gs2 hsw hx hz
  have hq2 : (q == 10000) = false := beq_eq_false_iff_ne.2 hq
  rcases b2 x with hb | hb
  · subst hb
    clear hmo
    go_wp2_with fail; (with_reducible refine (K1.out _).mono ?_); rintro e w2 ⟨rfl, hbw2⟩; obtain ⟨hcw2, hfw2⟩ := bcell hbw2; have hzw2 := hbw2.size; have zzw20 : w1.heap.size < w2.heap.size := (by first | omega | (simp at hzw2; omega)); have zzw21 : w1.heap.size + 1 < w2.heap.size := (by first | omega | (simp at hzw2; omega))
    go_wp2_with fail; (with_reducible refine (K2.out _).mono ?_); rintro e w3 ⟨rfl, hbw3⟩; obtain ⟨hcw3, hfw3⟩ := bcell hbw3; have hzw3 := hbw3.size; have zzw30 : w1.heap.size < w3.heap.size := (by first | omega | (simp at hzw3; omega)); have zzw31 : w1.heap.size + 1 < w3.heap.size := (by first | omega | (simp at hzw3; omega))
    go_wp2_with fail; (with_reducible refine (K3.out _).mono ?_); rintro e w4 ⟨rfl, hbw4⟩; obtain ⟨hcw4, hfw4⟩ := bcell hbw4; have hzw4 := hbw4.size; have zzw40 : w1.heap.size < w4.heap.size := (by first | omega | (simp at hzw4; omega)); have zzw41 : w1.heap.size + 1 < w4.heap.size := (by first | omega | (simp at hzw4; omega))
    go_wp2_with fail; (with_reducible refine (K4.out _).mono ?_); rintro e w5 ⟨rfl, hbw5⟩; obtain ⟨hcw5, hfw5⟩ := bcell hbw5; have hzw5 := hbw5.size; have zzw50 : w1.heap.size < w5.heap.size := (by first | omega | (simp at hzw5; omega)); have zzw51 : w1.heap.size + 1 < w5.heap.size := (by first | omega | (simp at hzw5; omega))
    go_wp2
    all_goals
      go_ret
      exact ⟨rfl, (by repeat (first | with_reducible exact Below.refl _ _ | with_reducible assumption | with_reducible refine Below.drew ?_ | with_reducible refine below_drewN ?_ _ | with_reducible refine Below.setCell ?_ (by first | exact Nat.le_refl _ | (simp; done) | (simp; omega) | (dsimp only; omega)) _ | with_reducible refine Below.alloc ?_ (by first | exact Nat.le_refl _ | (simp; done) | (simp; omega) | (simp at *; omega)) _ | with_reducible refine bstep ?_ (by assumption)))⟩
  · obtain rfl : z = true := hmo hb
    subst hb
    clear hmo
    go_wp2_with fail; (with_reducible refine (K1.out _).mono ?_); rintro e w2 ⟨rfl, hbw2⟩; obtain ⟨hcw2, hfw2⟩ := bcell hbw2; have hzw2 := hbw2.size; have zzw20 : w1.heap.size < w2.heap.size := (by first | omega | (simp at hzw2; omega)); have zzw21 : w1.heap.size + 1 < w2.heap.size := (by first | omega | (simp at hzw2; omega))
    go_wp2_with fail; (with_reducible refine (K2.out _).mono ?_); rintro e w3 ⟨rfl, hbw3⟩; obtain ⟨hcw3, hfw3⟩ := bcell hbw3; have hzw3 := hbw3.size; have zzw30 : w1.heap.size < w3.heap.size := (by first | omega | (simp at hzw3; omega)); have zzw31 : w1.heap.size + 1 < w3.heap.size := (by first | omega | (simp at hzw3; omega))
    go_wp2_with fail; (with_reducible refine (K3.out _).mono ?_); rintro e w4 ⟨rfl, hbw4⟩; obtain ⟨hcw4, hfw4⟩ := bcell hbw4; have hzw4 := hbw4.size; have zzw40 : w1.heap.size < w4.heap.size := (by first | omega | (simp at hzw4; omega)); have zzw41 : w1.heap.size + 1 < w4.heap.size := (by first | omega | (simp at hzw4; omega))
    go_wp2_with fail; (with_reducible refine (K4.out _).mono ?_); rintro e w5 ⟨rfl, hbw5⟩; obtain ⟨hcw5, hfw5⟩ := bcell hbw5; have hzw5 := hbw5.size; have zzw50 : w1.heap.size < w5.heap.size := (by first | omega | (simp at hzw5; omega)); have zzw51 : w1.heap.size + 1 < w5.heap.size := (by first | omega | (simp at hzw5; omega))
    go_wp2
    all_goals
      go_ret
      exact ⟨rfl, (by repeat (first | with_reducible exact Below.refl _ _ | with_reducible assumption | with_reducible refine Below.drew ?_ | with_reducible refine below_drewN ?_ _ | with_reducible refine Below.setCell ?_ (by first | exact Nat.le_refl _ | (simp; done) | (simp; omega) | (dsimp only; omega)) _ | with_reducible refine Below.alloc ?_ (by first | exact Nat.le_refl _ | (simp; done) | (simp; omega) | (simp at *; omega)) _ | with_reducible refine bstep ?_ (by assumption)))⟩

set_option maxRecDepth 100000 in
theorem FnNear_lifted (os : Os) (started : os.Started) (H : Type) (enc : TypeId × Value → H) :
    ReturnsInHanded {} Try.checked os 9 .any (Rows.fnNearSpec.pre6 enc Try.prog Try.f9 Rows.fnNearRow.domain false) (Rows.fnNearSpec.post enc Try.prog Try.f9 false true false false) := by
  refine returnsInHanded_of_change (C := Try.checked) Try.own started (by as_aux_lemma => kernel_rfl) Try.func9
    (ChangeSpec.witness6 (enc := enc) (C := Try.checked) false ⟨#[], #[.slice none 0 0], []⟩ 8 (by as_aux_lemma => kernel_rfl) (by as_aux_lemma => kernel_rfl) (by as_aux_lemma => kernel_rfl) (by as_aux_lemma => kernel_rfl)) ?_
  intro W base args ds gs before hval0 hW _ _
  have hval : ∀ (j : Nat) t v, Try.f9.params[j]? = some t → args[j]? = some v → Value.okWide Try.prog W .any base t v := hval0
  have hW' := hW
  obtain ⟨p, q, hA0, hV, rfl, _, _⟩ := hW
  have hA : DataW.TrodAll enc Try.prog W 0 (fun _ => true) true Try.f9.params.toList args.toList ds p := hA0
  rw [Try.params9] at hA hval
  obtain ⟨v0, vs0, d0, ds0, p0, q0, hargs, rfl, rfl, h0, r0⟩ := trodAll_cons hA
  obtain ⟨rfl, rfl, rfl⟩ := trodAll_nil r0
  obtain rfl : args = #[v0] := by cases args; simp_all
  obtain ⟨so0, n0, cp0, B0, rfl, hl0, hr0, hB0⟩ := op_bytes (hval 0 22 v0 rfl rfl) h0
  obtain ⟨rfl, rfl⟩ := trodVars_none hV
  refine (laws_FnNear so0 n0 cp0 B0 W hl0 hr0 hB0).mono fun e W1 ⟨he, hb⟩ => ⟨_, he, ?_⟩
  exact law_post Try.laidOut (by as_aux_lemma => kernel_rfl) Try.underlying4 rfl rfl hW' rfl rfl rfl hb
set_option maxHeartbeats 8000000 in
theorem FnNear_closed : joinedFacts Try.prog 9 Try.f9 Rows.fnNearSpec Rows.fnNearRow = true := by
  simp only [joinedFacts, Bool.and_eq_true, Try.laidOut, Try.mapsRowed, Try.stopsNone, Try.stopKnobsNone, Try.plainKeysIs, Try.stopsHeardIs, Try.mayEnterIs, Try.liftsFinalIs, Try.makeIs, and_true, true_and]
  repeat' (with_reducible refine And.intro ?_ ?_)
  all_goals (as_aux_lemma => kernel_rfl)
set_option maxHeartbeats 8000000 in
/-- FnNear: whatever the input, the law returns true, and the input reads as it did. -/
theorem FnNear_holds : Rows.FnNearSaid :=
  OpenClaim.holds_of_wide 9 Try.f9 rfl rfl rfl rfl rfl rfl rfl ⟨rfl, rfl, rfl, rfl, rfl⟩ rfl rfl rfl rfl rfl (by as_aux_lemma => kernel_rfl) Try.func9
    FnNear_closed
    (of_decide_eq_true (by as_aux_lemma => kernel_rfl)) (by unfold Func.isWrapper; rw [if_neg (of_decide_eq_false (by as_aux_lemma => kernel_rfl))]; exact ⟨rfl, rfl⟩)
    (fun os started H enc _ => FnNear_lifted os started H enc)
#print axioms FnNear_holds
end Go.Proofs.Ytkhapajjbomknaa
