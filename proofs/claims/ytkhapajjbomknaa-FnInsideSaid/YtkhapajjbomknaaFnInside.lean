/- FnInside holds: the boat that gives room to an overlapped one is the one farther from the mark; for every code. No condition. -/
import Derived.Test.YtkhapajjbomknaaDy
import Derived.Test.YtkhapajjbomknaaF
import Derived.Test.YtkhapajjbomknaaO
import Derived.Test.YtkhapajjbomknaaLaw
import Derived.Test.YtkhapajjbomknaaLb
namespace Go.Proofs.Ytkhapajjbomknaa
open Go.ChangeShapes Go.WideShapes Go.ChangeAt Go.RowKit

theorem ins_swap (mx my ax ay bx bY : Int) : (insI mx my ax ay bx bY = 0 ∧ insI mx my bx bY ax ay = 0) ∨ (insI mx my ax ay bx bY = 1 ∧ insI mx my bx bY ax ay = 2) ∨ (insI mx my ax ay bx bY = 2 ∧ insI mx my bx bY ax ay = 1) := by
  unfold insI
  (repeat' split) <;> first | omega | simp
theorem ins_self (mx my ax ay : Int) : insI mx my ax ay ax ay = 0 := by
  unfold insI
  (repeat' split) <;> first | omega | rfl
theorem rm_two (wx wy mx my bx bY hx hy l cx cy ix iy m : Int) : ¬ (rmI wx wy mx my bx bY hx hy l cx cy ix iy m).2 = 2 ∨ ((rmI wx wy mx my bx bY hx hy l cx cy ix iy m).2 = 2 ∧ (rmI wx wy mx my bx bY hx hy l cx cy ix iy m).1 = 3 - insI mx my bx bY cx cy) := by
  unfold rmI
  (repeat' split) <;> simp
set_option maxRecDepth 100000 in
set_option maxHeartbeats 40000000 in
theorem laws_FnInside (so : Option Addr) (n cap : Nat) (B : Nat → Int) (w : World) (hl : n ≤ maxLen) (h : RowAt w so n 1 (vb B)) (hB : ∀ i, 0 ≤ B i ∧ B i ≤ 255) :
    Calls Try.prog 5 #[.slice so n cap] w fun e w' => e = .returned (.bool true) ∧ Below w.heap.size w w' := by
  unfold maxLen at hl
  by_cases hn : 4096 < n
  · have Hd := hide (decide_eq_true hn)
    go_enter Try.func5, Try.ntmps5
    go_wp2_with (go_at_call 10; (with_reducible refine (laws_big _ _ _ _ (by omega)).mono ?_); rintro e w9 ⟨rfl, rfl⟩; rw [Hd.out])
    go_ret
    exact ⟨rfl, (by repeat (first | with_reducible exact Below.refl _ _ | with_reducible assumption | with_reducible refine Below.drew ?_ | with_reducible refine below_drewN ?_ _ | with_reducible refine Below.setCell ?_ (by first | exact Nat.le_refl _ | (simp; done) | (simp; omega) | (dsimp only; omega)) _ | with_reducible refine Below.alloc ?_ (by first | exact Nat.le_refl _ | (simp; done) | (simp; omega) | (simp at *; omega)) _ | with_reducible refine bstep ?_ (by assumption)))⟩
  have Hd := hide (decide_eq_false hn)
  go_enter Try.func5, Try.ntmps5
  go_wp2_with fail; (with_reducible refine (laws_big _ _ _ _ (by omega)).mono ?_); rintro e w0 ⟨rfl, rfl⟩; rw [Hd.out]
  go_wp2_with fail; (with_reducible refine (spec_DrawInsideBoat so n cap B _ h hB (by omega)).mono ?_); rintro e w1 ⟨⟨nm, mx, my, sd, zn, a, b, c, d, l, a', b', c', d', l', rfl⟩, hb1⟩; have hz1 := hb1.size
  rcases b2 (isPt mx my && isHu a b c d l && isHu a' b' c' d' l') with g1 | g1
  · have K1 := hide (show ∀ W, Calls Try.prog 20 #[.agg #[.string nm, .int .i64 mx, .int .i64 my, .int .i64 sd, .int .i64 zn], .agg #[.int .i64 a, .int .i64 b, .int .i64 c, .int .i64 d, .int .i64 l], .agg #[.int .i64 (a'), .int .i64 (b'), .int .i64 (c'), .int .i64 (d'), .int .i64 (l')]] W fun e w' => e = .returned (.tuple #[.int .i64 0, .int .i64 1]) ∧ Below W.heap.size W w' from fun W => (impl_InsideBoat nm mx my sd zn a b c d l a' b' c' d' l' W).mono fun e w' k => ⟨by rw [k.1, g1]; rfl, k.2⟩)
    have K2 := hide (show ∀ W, Calls Try.prog 21 #[.agg #[.string nm, .int .i64 mx, .int .i64 my, .int .i64 sd, .int .i64 zn], .agg #[.int .i64 a, .int .i64 b, .int .i64 c, .int .i64 d, .int .i64 l], .agg #[.int .i64 (a'), .int .i64 (b'), .int .i64 (c'), .int .i64 (d'), .int .i64 (l')]] W fun e w' => e = .returned (.tuple #[.int .i64 0, .int .i64 1]) ∧ Below W.heap.size W w' from fun W => (spec_InsideBoat nm mx my sd zn a b c d l a' b' c' d' l' W).mono fun e w' k => ⟨by rw [k.1, g1]; rfl, k.2⟩)
    clear g1
    go_wp2_with fail; (with_reducible refine (K1.out _).mono ?_); rintro e w2 ⟨rfl, hbw2⟩; obtain ⟨hcw2, hfw2⟩ := bcell hbw2; have hzw2 := hbw2.size; have zzw20 : w1.heap.size < w2.heap.size := (by first | omega | (simp at hzw2; omega)); have zzw21 : w1.heap.size + 1 < w2.heap.size := (by first | omega | (simp at hzw2; omega)); have zzw22 : w1.heap.size + 1 + 1 < w2.heap.size := (by first | omega | (simp at hzw2; omega))
    go_wp2_with fail; (with_reducible refine (K2.out _).mono ?_); rintro e w3 ⟨rfl, hbw3⟩; obtain ⟨hcw3, hfw3⟩ := bcell hbw3; have hzw3 := hbw3.size; have zzw30 : w1.heap.size < w3.heap.size := (by first | omega | (simp at hzw3; omega)); have zzw31 : w1.heap.size + 1 < w3.heap.size := (by first | omega | (simp at hzw3; omega)); have zzw32 : w1.heap.size + 1 + 1 < w3.heap.size := (by first | omega | (simp at hzw3; omega))
    go_wp2
    go_ret
    exact ⟨rfl, (by repeat (first | with_reducible exact Below.refl _ _ | with_reducible assumption | with_reducible refine Below.drew ?_ | with_reducible refine below_drewN ?_ _ | with_reducible refine Below.setCell ?_ (by first | exact Nat.le_refl _ | (simp; done) | (simp; omega) | (dsimp only; omega)) _ | with_reducible refine Below.alloc ?_ (by first | exact Nat.le_refl _ | (simp; done) | (simp; omega) | (simp at *; omega)) _ | with_reducible refine bstep ?_ (by assumption)))⟩
  have gp : isPt mx my = true := by simp only [Bool.and_eq_true] at g1; exact g1.1.1
  have ga : isHu a b c d l = true := by simp only [Bool.and_eq_true] at g1; exact g1.1.2
  have gb : isHu a' b' c' d' l' = true := by simp only [Bool.and_eq_true] at g1; exact g1.2
  have g2 : (isPt mx my && isHu a' b' c' d' l' && isHu a b c d l) = true := by rw [gp, ga, gb]; rfl
  have g3 : (isPt mx my && isHu a b c d l && isHu a b c d l) = true := by rw [gp, ga]; rfl
  have g4 : (isWd 3 4 && (isPt mx my && isHu a b c d l && isHu a' b' c' d' l')) = true := by rw [g1]; rfl
  have hr := rm_two 3 4 mx my a b c d l a' b' c' d' l'
  obtain ⟨rg, hrg⟩ : ∃ x, x = (rmI 3 4 mx my a b c d l a' b' c' d' l').1 := ⟨_, rfl⟩
  obtain ⟨rr, hrr⟩ : ∃ x, x = (rmI 3 4 mx my a b c d l a' b' c' d' l').2 := ⟨_, rfl⟩
  rw [← hrg, ← hrr] at hr
  have K5 := hide (show ∀ W, Calls Try.prog 22 #[.agg #[.int .i64 3, .int .i64 4], .agg #[.string nm, .int .i64 mx, .int .i64 my, .int .i64 sd, .int .i64 zn], .agg #[.int .i64 a, .int .i64 b, .int .i64 c, .int .i64 d, .int .i64 l], .agg #[.int .i64 (a'), .int .i64 (b'), .int .i64 (c'), .int .i64 (d'), .int .i64 (l')]] W fun e w' => e = .returned (.tuple #[.agg #[.int .i64 rg, .int .i64 rr], .int .i64 0]) ∧ Below W.heap.size W w' from fun W => (impl_RoomBetween 3 4 nm mx my sd zn a b c d l a' b' c' d' l' W).mono fun e w' k => ⟨by rw [k.1, g4, hrg, hrr]; rfl, k.2⟩)
  have K4 := hide (show ∀ W, Calls Try.prog 20 #[.agg #[.string nm, .int .i64 mx, .int .i64 my, .int .i64 sd, .int .i64 zn], .agg #[.int .i64 a, .int .i64 b, .int .i64 c, .int .i64 d, .int .i64 l], .agg #[.int .i64 a, .int .i64 b, .int .i64 c, .int .i64 d, .int .i64 l]] W fun e w' => e = .returned (.tuple #[.int .i64 0, .int .i64 0]) ∧ Below W.heap.size W w' from fun W => (impl_InsideBoat nm mx my sd zn a b c d l a b c d l W).mono fun e w' k => ⟨by rw [k.1, g3, ins_self]; rfl, k.2⟩)
  rcases ins_swap mx my a b a' b' with ⟨i1, i2⟩ | ⟨i1, i2⟩ | ⟨i1, i2⟩
  · have K1 := hide (show ∀ W, Calls Try.prog 20 #[.agg #[.string nm, .int .i64 mx, .int .i64 my, .int .i64 sd, .int .i64 zn], .agg #[.int .i64 a, .int .i64 b, .int .i64 c, .int .i64 d, .int .i64 l], .agg #[.int .i64 (a'), .int .i64 (b'), .int .i64 (c'), .int .i64 (d'), .int .i64 (l')]] W fun e w' => e = .returned (.tuple #[.int .i64 0, .int .i64 0]) ∧ Below W.heap.size W w' from fun W => (impl_InsideBoat nm mx my sd zn a b c d l a' b' c' d' l' W).mono fun e w' k => ⟨by rw [k.1, g1, i1]; rfl, k.2⟩)
    have K2 := hide (show ∀ W, Calls Try.prog 21 #[.agg #[.string nm, .int .i64 mx, .int .i64 my, .int .i64 sd, .int .i64 zn], .agg #[.int .i64 a, .int .i64 b, .int .i64 c, .int .i64 d, .int .i64 l], .agg #[.int .i64 (a'), .int .i64 (b'), .int .i64 (c'), .int .i64 (d'), .int .i64 (l')]] W fun e w' => e = .returned (.tuple #[.int .i64 0, .int .i64 0]) ∧ Below W.heap.size W w' from fun W => (spec_InsideBoat nm mx my sd zn a b c d l a' b' c' d' l' W).mono fun e w' k => ⟨by rw [k.1, g1, i1]; rfl, k.2⟩)
    have K3 := hide (show ∀ W, Calls Try.prog 20 #[.agg #[.string nm, .int .i64 mx, .int .i64 my, .int .i64 sd, .int .i64 zn], .agg #[.int .i64 (a'), .int .i64 (b'), .int .i64 (c'), .int .i64 (d'), .int .i64 (l')], .agg #[.int .i64 a, .int .i64 b, .int .i64 c, .int .i64 d, .int .i64 l]] W fun e w' => e = .returned (.tuple #[.int .i64 0, .int .i64 0]) ∧ Below W.heap.size W w' from fun W => (impl_InsideBoat nm mx my sd zn a' b' c' d' l' a b c d l W).mono fun e w' k => ⟨by rw [k.1, g2, i2]; rfl, k.2⟩)
    rw [i1] at hr
    clear i1 i2 g1 g2 g3 g4 gp ga gb hrg hrr
    rcases hr with e1 | ⟨rfl, e1⟩
    · skip
      go_wp2_with fail; (with_reducible refine (K1.out _).mono ?_); rintro e w2 ⟨rfl, hbw2⟩; obtain ⟨hcw2, hfw2⟩ := bcell hbw2; have hzw2 := hbw2.size; have zzw20 : w1.heap.size < w2.heap.size := (by first | omega | (simp at hzw2; omega)); have zzw21 : w1.heap.size + 1 < w2.heap.size := (by first | omega | (simp at hzw2; omega)); have zzw22 : w1.heap.size + 1 + 1 < w2.heap.size := (by first | omega | (simp at hzw2; omega))
      go_wp2_with fail; (with_reducible refine (K2.out _).mono ?_); rintro e w3 ⟨rfl, hbw3⟩; obtain ⟨hcw3, hfw3⟩ := bcell hbw3; have hzw3 := hbw3.size; have zzw30 : w1.heap.size < w3.heap.size := (by first | omega | (simp at hzw3; omega)); have zzw31 : w1.heap.size + 1 < w3.heap.size := (by first | omega | (simp at hzw3; omega)); have zzw32 : w1.heap.size + 1 + 1 < w3.heap.size := (by first | omega | (simp at hzw3; omega))
      go_wp2_with fail; (with_reducible refine (K3.out _).mono ?_); rintro e w4 ⟨rfl, hbw4⟩; obtain ⟨hcw4, hfw4⟩ := bcell hbw4; have hzw4 := hbw4.size; have zzw40 : w1.heap.size < w4.heap.size := (by first | omega | (simp at hzw4; omega)); have zzw41 : w1.heap.size + 1 < w4.heap.size := (by first | omega | (simp at hzw4; omega)); have zzw42 : w1.heap.size + 1 + 1 < w4.heap.size := (by first | omega | (simp at hzw4; omega))
      go_wp2_with fail; (with_reducible refine (K4.out _).mono ?_); rintro e w5 ⟨rfl, hbw5⟩; obtain ⟨hcw5, hfw5⟩ := bcell hbw5; have hzw5 := hbw5.size; have zzw50 : w1.heap.size < w5.heap.size := (by first | omega | (simp at hzw5; omega)); have zzw51 : w1.heap.size + 1 < w5.heap.size := (by first | omega | (simp at hzw5; omega)); have zzw52 : w1.heap.size + 1 + 1 < w5.heap.size := (by first | omega | (simp at hzw5; omega))
      go_wp2_with fail; (with_reducible refine (K5.out _).mono ?_); rintro e w6 ⟨rfl, hbw6⟩; obtain ⟨hcw6, hfw6⟩ := bcell hbw6; have hzw6 := hbw6.size; have zzw60 : w1.heap.size < w6.heap.size := (by first | omega | (simp at hzw6; omega)); have zzw61 : w1.heap.size + 1 < w6.heap.size := (by first | omega | (simp at hzw6; omega)); have zzw62 : w1.heap.size + 1 + 1 < w6.heap.size := (by first | omega | (simp at hzw6; omega))
      go_wp2
      go_ret
      exact ⟨rfl, (by repeat (first | with_reducible exact Below.refl _ _ | with_reducible assumption | with_reducible refine Below.drew ?_ | with_reducible refine below_drewN ?_ _ | with_reducible refine Below.setCell ?_ (by first | exact Nat.le_refl _ | (simp; done) | (simp; omega) | (dsimp only; omega)) _ | with_reducible refine Below.alloc ?_ (by first | exact Nat.le_refl _ | (simp; done) | (simp; omega) | (simp at *; omega)) _ | with_reducible refine bstep ?_ (by assumption)))⟩
    · obtain rfl : rg = 3 := by omega
      clear e1
      go_wp2_with fail; (with_reducible refine (K1.out _).mono ?_); rintro e w2 ⟨rfl, hbw2⟩; obtain ⟨hcw2, hfw2⟩ := bcell hbw2; have hzw2 := hbw2.size; have zzw20 : w1.heap.size < w2.heap.size := (by first | omega | (simp at hzw2; omega)); have zzw21 : w1.heap.size + 1 < w2.heap.size := (by first | omega | (simp at hzw2; omega)); have zzw22 : w1.heap.size + 1 + 1 < w2.heap.size := (by first | omega | (simp at hzw2; omega))
      go_wp2_with fail; (with_reducible refine (K2.out _).mono ?_); rintro e w3 ⟨rfl, hbw3⟩; obtain ⟨hcw3, hfw3⟩ := bcell hbw3; have hzw3 := hbw3.size; have zzw30 : w1.heap.size < w3.heap.size := (by first | omega | (simp at hzw3; omega)); have zzw31 : w1.heap.size + 1 < w3.heap.size := (by first | omega | (simp at hzw3; omega)); have zzw32 : w1.heap.size + 1 + 1 < w3.heap.size := (by first | omega | (simp at hzw3; omega))
      go_wp2_with fail; (with_reducible refine (K3.out _).mono ?_); rintro e w4 ⟨rfl, hbw4⟩; obtain ⟨hcw4, hfw4⟩ := bcell hbw4; have hzw4 := hbw4.size; have zzw40 : w1.heap.size < w4.heap.size := (by first | omega | (simp at hzw4; omega)); have zzw41 : w1.heap.size + 1 < w4.heap.size := (by first | omega | (simp at hzw4; omega)); have zzw42 : w1.heap.size + 1 + 1 < w4.heap.size := (by first | omega | (simp at hzw4; omega))
      go_wp2_with fail; (with_reducible refine (K4.out _).mono ?_); rintro e w5 ⟨rfl, hbw5⟩; obtain ⟨hcw5, hfw5⟩ := bcell hbw5; have hzw5 := hbw5.size; have zzw50 : w1.heap.size < w5.heap.size := (by first | omega | (simp at hzw5; omega)); have zzw51 : w1.heap.size + 1 < w5.heap.size := (by first | omega | (simp at hzw5; omega)); have zzw52 : w1.heap.size + 1 + 1 < w5.heap.size := (by first | omega | (simp at hzw5; omega))
      go_wp2_with fail; (with_reducible refine (K5.out _).mono ?_); rintro e w6 ⟨rfl, hbw6⟩; obtain ⟨hcw6, hfw6⟩ := bcell hbw6; have hzw6 := hbw6.size; have zzw60 : w1.heap.size < w6.heap.size := (by first | omega | (simp at hzw6; omega)); have zzw61 : w1.heap.size + 1 < w6.heap.size := (by first | omega | (simp at hzw6; omega)); have zzw62 : w1.heap.size + 1 + 1 < w6.heap.size := (by first | omega | (simp at hzw6; omega))
      go_wp2
      go_ret
      exact ⟨rfl, (by repeat (first | with_reducible exact Below.refl _ _ | with_reducible assumption | with_reducible refine Below.drew ?_ | with_reducible refine below_drewN ?_ _ | with_reducible refine Below.setCell ?_ (by first | exact Nat.le_refl _ | (simp; done) | (simp; omega) | (dsimp only; omega)) _ | with_reducible refine Below.alloc ?_ (by first | exact Nat.le_refl _ | (simp; done) | (simp; omega) | (simp at *; omega)) _ | with_reducible refine bstep ?_ (by assumption)))⟩
  · have K1 := hide (show ∀ W, Calls Try.prog 20 #[.agg #[.string nm, .int .i64 mx, .int .i64 my, .int .i64 sd, .int .i64 zn], .agg #[.int .i64 a, .int .i64 b, .int .i64 c, .int .i64 d, .int .i64 l], .agg #[.int .i64 (a'), .int .i64 (b'), .int .i64 (c'), .int .i64 (d'), .int .i64 (l')]] W fun e w' => e = .returned (.tuple #[.int .i64 1, .int .i64 0]) ∧ Below W.heap.size W w' from fun W => (impl_InsideBoat nm mx my sd zn a b c d l a' b' c' d' l' W).mono fun e w' k => ⟨by rw [k.1, g1, i1]; rfl, k.2⟩)
    have K2 := hide (show ∀ W, Calls Try.prog 21 #[.agg #[.string nm, .int .i64 mx, .int .i64 my, .int .i64 sd, .int .i64 zn], .agg #[.int .i64 a, .int .i64 b, .int .i64 c, .int .i64 d, .int .i64 l], .agg #[.int .i64 (a'), .int .i64 (b'), .int .i64 (c'), .int .i64 (d'), .int .i64 (l')]] W fun e w' => e = .returned (.tuple #[.int .i64 1, .int .i64 0]) ∧ Below W.heap.size W w' from fun W => (spec_InsideBoat nm mx my sd zn a b c d l a' b' c' d' l' W).mono fun e w' k => ⟨by rw [k.1, g1, i1]; rfl, k.2⟩)
    have K3 := hide (show ∀ W, Calls Try.prog 20 #[.agg #[.string nm, .int .i64 mx, .int .i64 my, .int .i64 sd, .int .i64 zn], .agg #[.int .i64 (a'), .int .i64 (b'), .int .i64 (c'), .int .i64 (d'), .int .i64 (l')], .agg #[.int .i64 a, .int .i64 b, .int .i64 c, .int .i64 d, .int .i64 l]] W fun e w' => e = .returned (.tuple #[.int .i64 2, .int .i64 0]) ∧ Below W.heap.size W w' from fun W => (impl_InsideBoat nm mx my sd zn a' b' c' d' l' a b c d l W).mono fun e w' k => ⟨by rw [k.1, g2, i2]; rfl, k.2⟩)
    rw [i1] at hr
    clear i1 i2 g1 g2 g3 g4 gp ga gb hrg hrr
    rcases hr with e1 | ⟨rfl, e1⟩
    · skip
      go_wp2_with fail; (with_reducible refine (K1.out _).mono ?_); rintro e w2 ⟨rfl, hbw2⟩; obtain ⟨hcw2, hfw2⟩ := bcell hbw2; have hzw2 := hbw2.size; have zzw20 : w1.heap.size < w2.heap.size := (by first | omega | (simp at hzw2; omega)); have zzw21 : w1.heap.size + 1 < w2.heap.size := (by first | omega | (simp at hzw2; omega)); have zzw22 : w1.heap.size + 1 + 1 < w2.heap.size := (by first | omega | (simp at hzw2; omega))
      go_wp2_with fail; (with_reducible refine (K2.out _).mono ?_); rintro e w3 ⟨rfl, hbw3⟩; obtain ⟨hcw3, hfw3⟩ := bcell hbw3; have hzw3 := hbw3.size; have zzw30 : w1.heap.size < w3.heap.size := (by first | omega | (simp at hzw3; omega)); have zzw31 : w1.heap.size + 1 < w3.heap.size := (by first | omega | (simp at hzw3; omega)); have zzw32 : w1.heap.size + 1 + 1 < w3.heap.size := (by first | omega | (simp at hzw3; omega))
      go_wp2_with fail; (with_reducible refine (K3.out _).mono ?_); rintro e w4 ⟨rfl, hbw4⟩; obtain ⟨hcw4, hfw4⟩ := bcell hbw4; have hzw4 := hbw4.size; have zzw40 : w1.heap.size < w4.heap.size := (by first | omega | (simp at hzw4; omega)); have zzw41 : w1.heap.size + 1 < w4.heap.size := (by first | omega | (simp at hzw4; omega)); have zzw42 : w1.heap.size + 1 + 1 < w4.heap.size := (by first | omega | (simp at hzw4; omega))
      go_wp2_with fail; (with_reducible refine (K4.out _).mono ?_); rintro e w5 ⟨rfl, hbw5⟩; obtain ⟨hcw5, hfw5⟩ := bcell hbw5; have hzw5 := hbw5.size; have zzw50 : w1.heap.size < w5.heap.size := (by first | omega | (simp at hzw5; omega)); have zzw51 : w1.heap.size + 1 < w5.heap.size := (by first | omega | (simp at hzw5; omega)); have zzw52 : w1.heap.size + 1 + 1 < w5.heap.size := (by first | omega | (simp at hzw5; omega))
      go_wp2_with fail; (with_reducible refine (K5.out _).mono ?_); rintro e w6 ⟨rfl, hbw6⟩; obtain ⟨hcw6, hfw6⟩ := bcell hbw6; have hzw6 := hbw6.size; have zzw60 : w1.heap.size < w6.heap.size := (by first | omega | (simp at hzw6; omega)); have zzw61 : w1.heap.size + 1 < w6.heap.size := (by first | omega | (simp at hzw6; omega)); have zzw62 : w1.heap.size + 1 + 1 < w6.heap.size := (by first | omega | (simp at hzw6; omega))
      go_wp2
      go_ret
      exact ⟨rfl, (by repeat (first | with_reducible exact Below.refl _ _ | with_reducible assumption | with_reducible refine Below.drew ?_ | with_reducible refine below_drewN ?_ _ | with_reducible refine Below.setCell ?_ (by first | exact Nat.le_refl _ | (simp; done) | (simp; omega) | (dsimp only; omega)) _ | with_reducible refine Below.alloc ?_ (by first | exact Nat.le_refl _ | (simp; done) | (simp; omega) | (simp at *; omega)) _ | with_reducible refine bstep ?_ (by assumption)))⟩
    · obtain rfl : rg = 2 := by omega
      clear e1
      go_wp2_with fail; (with_reducible refine (K1.out _).mono ?_); rintro e w2 ⟨rfl, hbw2⟩; obtain ⟨hcw2, hfw2⟩ := bcell hbw2; have hzw2 := hbw2.size; have zzw20 : w1.heap.size < w2.heap.size := (by first | omega | (simp at hzw2; omega)); have zzw21 : w1.heap.size + 1 < w2.heap.size := (by first | omega | (simp at hzw2; omega)); have zzw22 : w1.heap.size + 1 + 1 < w2.heap.size := (by first | omega | (simp at hzw2; omega))
      go_wp2_with fail; (with_reducible refine (K2.out _).mono ?_); rintro e w3 ⟨rfl, hbw3⟩; obtain ⟨hcw3, hfw3⟩ := bcell hbw3; have hzw3 := hbw3.size; have zzw30 : w1.heap.size < w3.heap.size := (by first | omega | (simp at hzw3; omega)); have zzw31 : w1.heap.size + 1 < w3.heap.size := (by first | omega | (simp at hzw3; omega)); have zzw32 : w1.heap.size + 1 + 1 < w3.heap.size := (by first | omega | (simp at hzw3; omega))
      go_wp2_with fail; (with_reducible refine (K3.out _).mono ?_); rintro e w4 ⟨rfl, hbw4⟩; obtain ⟨hcw4, hfw4⟩ := bcell hbw4; have hzw4 := hbw4.size; have zzw40 : w1.heap.size < w4.heap.size := (by first | omega | (simp at hzw4; omega)); have zzw41 : w1.heap.size + 1 < w4.heap.size := (by first | omega | (simp at hzw4; omega)); have zzw42 : w1.heap.size + 1 + 1 < w4.heap.size := (by first | omega | (simp at hzw4; omega))
      go_wp2_with fail; (with_reducible refine (K4.out _).mono ?_); rintro e w5 ⟨rfl, hbw5⟩; obtain ⟨hcw5, hfw5⟩ := bcell hbw5; have hzw5 := hbw5.size; have zzw50 : w1.heap.size < w5.heap.size := (by first | omega | (simp at hzw5; omega)); have zzw51 : w1.heap.size + 1 < w5.heap.size := (by first | omega | (simp at hzw5; omega)); have zzw52 : w1.heap.size + 1 + 1 < w5.heap.size := (by first | omega | (simp at hzw5; omega))
      go_wp2_with fail; (with_reducible refine (K5.out _).mono ?_); rintro e w6 ⟨rfl, hbw6⟩; obtain ⟨hcw6, hfw6⟩ := bcell hbw6; have hzw6 := hbw6.size; have zzw60 : w1.heap.size < w6.heap.size := (by first | omega | (simp at hzw6; omega)); have zzw61 : w1.heap.size + 1 < w6.heap.size := (by first | omega | (simp at hzw6; omega)); have zzw62 : w1.heap.size + 1 + 1 < w6.heap.size := (by first | omega | (simp at hzw6; omega))
      go_wp2
      go_ret
      exact ⟨rfl, (by repeat (first | with_reducible exact Below.refl _ _ | with_reducible assumption | with_reducible refine Below.drew ?_ | with_reducible refine below_drewN ?_ _ | with_reducible refine Below.setCell ?_ (by first | exact Nat.le_refl _ | (simp; done) | (simp; omega) | (dsimp only; omega)) _ | with_reducible refine Below.alloc ?_ (by first | exact Nat.le_refl _ | (simp; done) | (simp; omega) | (simp at *; omega)) _ | with_reducible refine bstep ?_ (by assumption)))⟩
  · have K1 := hide (show ∀ W, Calls Try.prog 20 #[.agg #[.string nm, .int .i64 mx, .int .i64 my, .int .i64 sd, .int .i64 zn], .agg #[.int .i64 a, .int .i64 b, .int .i64 c, .int .i64 d, .int .i64 l], .agg #[.int .i64 (a'), .int .i64 (b'), .int .i64 (c'), .int .i64 (d'), .int .i64 (l')]] W fun e w' => e = .returned (.tuple #[.int .i64 2, .int .i64 0]) ∧ Below W.heap.size W w' from fun W => (impl_InsideBoat nm mx my sd zn a b c d l a' b' c' d' l' W).mono fun e w' k => ⟨by rw [k.1, g1, i1]; rfl, k.2⟩)
    have K2 := hide (show ∀ W, Calls Try.prog 21 #[.agg #[.string nm, .int .i64 mx, .int .i64 my, .int .i64 sd, .int .i64 zn], .agg #[.int .i64 a, .int .i64 b, .int .i64 c, .int .i64 d, .int .i64 l], .agg #[.int .i64 (a'), .int .i64 (b'), .int .i64 (c'), .int .i64 (d'), .int .i64 (l')]] W fun e w' => e = .returned (.tuple #[.int .i64 2, .int .i64 0]) ∧ Below W.heap.size W w' from fun W => (spec_InsideBoat nm mx my sd zn a b c d l a' b' c' d' l' W).mono fun e w' k => ⟨by rw [k.1, g1, i1]; rfl, k.2⟩)
    have K3 := hide (show ∀ W, Calls Try.prog 20 #[.agg #[.string nm, .int .i64 mx, .int .i64 my, .int .i64 sd, .int .i64 zn], .agg #[.int .i64 (a'), .int .i64 (b'), .int .i64 (c'), .int .i64 (d'), .int .i64 (l')], .agg #[.int .i64 a, .int .i64 b, .int .i64 c, .int .i64 d, .int .i64 l]] W fun e w' => e = .returned (.tuple #[.int .i64 1, .int .i64 0]) ∧ Below W.heap.size W w' from fun W => (impl_InsideBoat nm mx my sd zn a' b' c' d' l' a b c d l W).mono fun e w' k => ⟨by rw [k.1, g2, i2]; rfl, k.2⟩)
    rw [i1] at hr
    clear i1 i2 g1 g2 g3 g4 gp ga gb hrg hrr
    rcases hr with e1 | ⟨rfl, e1⟩
    · skip
      go_wp2_with fail; (with_reducible refine (K1.out _).mono ?_); rintro e w2 ⟨rfl, hbw2⟩; obtain ⟨hcw2, hfw2⟩ := bcell hbw2; have hzw2 := hbw2.size; have zzw20 : w1.heap.size < w2.heap.size := (by first | omega | (simp at hzw2; omega)); have zzw21 : w1.heap.size + 1 < w2.heap.size := (by first | omega | (simp at hzw2; omega)); have zzw22 : w1.heap.size + 1 + 1 < w2.heap.size := (by first | omega | (simp at hzw2; omega))
      go_wp2_with fail; (with_reducible refine (K2.out _).mono ?_); rintro e w3 ⟨rfl, hbw3⟩; obtain ⟨hcw3, hfw3⟩ := bcell hbw3; have hzw3 := hbw3.size; have zzw30 : w1.heap.size < w3.heap.size := (by first | omega | (simp at hzw3; omega)); have zzw31 : w1.heap.size + 1 < w3.heap.size := (by first | omega | (simp at hzw3; omega)); have zzw32 : w1.heap.size + 1 + 1 < w3.heap.size := (by first | omega | (simp at hzw3; omega))
      go_wp2_with fail; (with_reducible refine (K3.out _).mono ?_); rintro e w4 ⟨rfl, hbw4⟩; obtain ⟨hcw4, hfw4⟩ := bcell hbw4; have hzw4 := hbw4.size; have zzw40 : w1.heap.size < w4.heap.size := (by first | omega | (simp at hzw4; omega)); have zzw41 : w1.heap.size + 1 < w4.heap.size := (by first | omega | (simp at hzw4; omega)); have zzw42 : w1.heap.size + 1 + 1 < w4.heap.size := (by first | omega | (simp at hzw4; omega))
      go_wp2_with fail; (with_reducible refine (K4.out _).mono ?_); rintro e w5 ⟨rfl, hbw5⟩; obtain ⟨hcw5, hfw5⟩ := bcell hbw5; have hzw5 := hbw5.size; have zzw50 : w1.heap.size < w5.heap.size := (by first | omega | (simp at hzw5; omega)); have zzw51 : w1.heap.size + 1 < w5.heap.size := (by first | omega | (simp at hzw5; omega)); have zzw52 : w1.heap.size + 1 + 1 < w5.heap.size := (by first | omega | (simp at hzw5; omega))
      go_wp2_with fail; (with_reducible refine (K5.out _).mono ?_); rintro e w6 ⟨rfl, hbw6⟩; obtain ⟨hcw6, hfw6⟩ := bcell hbw6; have hzw6 := hbw6.size; have zzw60 : w1.heap.size < w6.heap.size := (by first | omega | (simp at hzw6; omega)); have zzw61 : w1.heap.size + 1 < w6.heap.size := (by first | omega | (simp at hzw6; omega)); have zzw62 : w1.heap.size + 1 + 1 < w6.heap.size := (by first | omega | (simp at hzw6; omega))
      go_wp2
      go_ret
      exact ⟨rfl, (by repeat (first | with_reducible exact Below.refl _ _ | with_reducible assumption | with_reducible refine Below.drew ?_ | with_reducible refine below_drewN ?_ _ | with_reducible refine Below.setCell ?_ (by first | exact Nat.le_refl _ | (simp; done) | (simp; omega) | (dsimp only; omega)) _ | with_reducible refine Below.alloc ?_ (by first | exact Nat.le_refl _ | (simp; done) | (simp; omega) | (simp at *; omega)) _ | with_reducible refine bstep ?_ (by assumption)))⟩
    · obtain rfl : rg = 1 := by omega
      clear e1
      go_wp2_with fail; (with_reducible refine (K1.out _).mono ?_); rintro e w2 ⟨rfl, hbw2⟩; obtain ⟨hcw2, hfw2⟩ := bcell hbw2; have hzw2 := hbw2.size; have zzw20 : w1.heap.size < w2.heap.size := (by first | omega | (simp at hzw2; omega)); have zzw21 : w1.heap.size + 1 < w2.heap.size := (by first | omega | (simp at hzw2; omega)); have zzw22 : w1.heap.size + 1 + 1 < w2.heap.size := (by first | omega | (simp at hzw2; omega))
      go_wp2_with fail; (with_reducible refine (K2.out _).mono ?_); rintro e w3 ⟨rfl, hbw3⟩; obtain ⟨hcw3, hfw3⟩ := bcell hbw3; have hzw3 := hbw3.size; have zzw30 : w1.heap.size < w3.heap.size := (by first | omega | (simp at hzw3; omega)); have zzw31 : w1.heap.size + 1 < w3.heap.size := (by first | omega | (simp at hzw3; omega)); have zzw32 : w1.heap.size + 1 + 1 < w3.heap.size := (by first | omega | (simp at hzw3; omega))
      go_wp2_with fail; (with_reducible refine (K3.out _).mono ?_); rintro e w4 ⟨rfl, hbw4⟩; obtain ⟨hcw4, hfw4⟩ := bcell hbw4; have hzw4 := hbw4.size; have zzw40 : w1.heap.size < w4.heap.size := (by first | omega | (simp at hzw4; omega)); have zzw41 : w1.heap.size + 1 < w4.heap.size := (by first | omega | (simp at hzw4; omega)); have zzw42 : w1.heap.size + 1 + 1 < w4.heap.size := (by first | omega | (simp at hzw4; omega))
      go_wp2_with fail; (with_reducible refine (K4.out _).mono ?_); rintro e w5 ⟨rfl, hbw5⟩; obtain ⟨hcw5, hfw5⟩ := bcell hbw5; have hzw5 := hbw5.size; have zzw50 : w1.heap.size < w5.heap.size := (by first | omega | (simp at hzw5; omega)); have zzw51 : w1.heap.size + 1 < w5.heap.size := (by first | omega | (simp at hzw5; omega)); have zzw52 : w1.heap.size + 1 + 1 < w5.heap.size := (by first | omega | (simp at hzw5; omega))
      go_wp2_with fail; (with_reducible refine (K5.out _).mono ?_); rintro e w6 ⟨rfl, hbw6⟩; obtain ⟨hcw6, hfw6⟩ := bcell hbw6; have hzw6 := hbw6.size; have zzw60 : w1.heap.size < w6.heap.size := (by first | omega | (simp at hzw6; omega)); have zzw61 : w1.heap.size + 1 < w6.heap.size := (by first | omega | (simp at hzw6; omega)); have zzw62 : w1.heap.size + 1 + 1 < w6.heap.size := (by first | omega | (simp at hzw6; omega))
      go_wp2
      go_ret
      exact ⟨rfl, (by repeat (first | with_reducible exact Below.refl _ _ | with_reducible assumption | with_reducible refine Below.drew ?_ | with_reducible refine below_drewN ?_ _ | with_reducible refine Below.setCell ?_ (by first | exact Nat.le_refl _ | (simp; done) | (simp; omega) | (dsimp only; omega)) _ | with_reducible refine Below.alloc ?_ (by first | exact Nat.le_refl _ | (simp; done) | (simp; omega) | (simp at *; omega)) _ | with_reducible refine bstep ?_ (by assumption)))⟩

set_option maxRecDepth 100000 in
theorem FnInside_lifted (os : Os) (started : os.Started) (H : Type) (enc : TypeId × Value → H) :
    ReturnsInHanded {} Try.checked os 5 .any (Rows.fnInsideSpec.pre6 enc Try.prog Try.f5 Rows.fnInsideRow.domain false) (Rows.fnInsideSpec.post enc Try.prog Try.f5 false true false false) := by
  refine returnsInHanded_of_change (C := Try.checked) Try.own started (by as_aux_lemma => kernel_rfl) Try.func5
    (ChangeSpec.witness6 (enc := enc) (C := Try.checked) false ⟨#[], #[.slice none 0 0], []⟩ 8 (by as_aux_lemma => kernel_rfl) (by as_aux_lemma => kernel_rfl) (by as_aux_lemma => kernel_rfl) (by as_aux_lemma => kernel_rfl)) ?_
  intro W base args ds gs before hval0 hW _ _
  have hval : ∀ (j : Nat) t v, Try.f5.params[j]? = some t → args[j]? = some v → Value.okWide Try.prog W .any base t v := hval0
  have hW' := hW
  obtain ⟨p, q, hA0, hV, rfl, _, _⟩ := hW
  have hA : DataW.TrodAll enc Try.prog W 0 (fun _ => true) true Try.f5.params.toList args.toList ds p := hA0
  rw [Try.params5] at hA hval
  obtain ⟨v0, vs0, d0, ds0, p0, q0, hargs, rfl, rfl, h0, r0⟩ := trodAll_cons hA
  obtain ⟨rfl, rfl, rfl⟩ := trodAll_nil r0
  obtain rfl : args = #[v0] := by cases args; simp_all
  obtain ⟨so0, n0, cp0, B0, rfl, hl0, hr0, hB0⟩ := op_bytes (hval 0 22 v0 rfl rfl) h0
  obtain ⟨rfl, rfl⟩ := trodVars_none hV
  refine (laws_FnInside so0 n0 cp0 B0 W hl0 hr0 hB0).mono fun e W1 ⟨he, hb⟩ => ⟨_, he, ?_⟩
  exact law_post Try.laidOut (by as_aux_lemma => kernel_rfl) Try.underlying4 rfl rfl hW' rfl rfl rfl hb
set_option maxHeartbeats 8000000 in
theorem FnInside_closed : joinedFacts Try.prog 5 Try.f5 Rows.fnInsideSpec Rows.fnInsideRow = true := by
  simp only [joinedFacts, Bool.and_eq_true, Try.laidOut, Try.mapsRowed, Try.stopsNone, Try.stopKnobsNone, Try.plainKeysIs, Try.stopsHeardIs, Try.mayEnterIs, Try.liftsFinalIs, Try.makeIs, and_true, true_and]
  repeat' (with_reducible refine And.intro ?_ ?_)
  all_goals (as_aux_lemma => kernel_rfl)
set_option maxHeartbeats 8000000 in
/-- FnInside: whatever the input, the law returns true, and the input reads as it did. -/
theorem FnInside_holds : Rows.FnInsideSaid :=
  OpenClaim.holds_of_wide 5 Try.f5 rfl rfl rfl rfl rfl rfl rfl ⟨rfl, rfl, rfl, rfl, rfl⟩ rfl rfl rfl rfl rfl (by as_aux_lemma => kernel_rfl) Try.func5
    FnInside_closed
    (of_decide_eq_true (by as_aux_lemma => kernel_rfl)) (by unfold Func.isWrapper; rw [if_neg (of_decide_eq_false (by as_aux_lemma => kernel_rfl))]; exact ⟨rfl, rfl⟩)
    (fun os started H enc _ => FnInside_lifted os started H enc)
#print axioms FnInside_holds
end Go.Proofs.Ytkhapajjbomknaa
