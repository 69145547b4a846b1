/- FnTurning holds: a boat is turning within a greater span if it is within a smaller one, and at each manoeuvre; for every code. No condition. -/
import Derived.Test.YtnmnibpcklcmgaaDf
import Derived.Test.YtnmnibpcklcmgaaTu
import Derived.Test.YtnmnibpcklcmgaaTv
import Derived.Test.YtnmnibpcklcmgaaMo
import Derived.Test.YtnmnibpcklcmgaaIb
import Derived.Test.YtnmnibpcklcmgaaIw
import Derived.Test.YtnmnibpcklcmgaaLaw
import Derived.Test.YtnmnibpcklcmgaaLb
namespace Go.Proofs.Ytnmnibpcklcmgaa
open Go.ChangeShapes Go.WideShapes Go.ChangeAt Go.RowKit

theorem tuC_t {wx wy : Int} {n : Nat} {T X Y : Nat → Int} {t sp : Int} (h : tuC wx wy n T X Y t sp = 0) : isWd wx wy = true ∧ isTr n T X Y = true ∧ inB t (T 0) (T (n - 1)) = true ∧ inB sp 0 60000 = true := by
  revert h
  unfold tuC
  cases isWd wx wy <;> cases isTr n T X Y <;> cases inB t (T 0) (T (n - 1)) <;> cases inB sp 0 60000 <;> simp [sel]
theorem tuC_ok {wx wy : Int} {n : Nat} {T X Y : Nat → Int} {t sp : Int} (h1 : isWd wx wy = true) (h2 : isTr n T X Y = true) (h3 : inB t (T 0) (T (n - 1)) = true) (h4 : inB sp 0 60000 = true) : tuC wx wy n T X Y t sp = 0 := by unfold tuC; rw [h1, h2, h3, h4]; rfl
theorem tuB_ok {wx wy : Int} {n : Nat} {T X Y : Nat → Int} {t sp : Int} (h1 : isWd wx wy = true) (h2 : isTr n T X Y = true) (h3 : inB t (T 0) (T (n - 1)) = true) (h4 : inB sp 0 60000 = true) : tuB wx wy n T X Y t sp = turB T t sp (mans wx wy X Y (n - 2)) (mans wx wy X Y (n - 2)).length := by unfold tuB; rw [h1, h2, h3, h4]; rfl
theorem turB_more {T : Nat → Int} {t sp : Int} {L : List (Int × Int)} (hs : inB sp 0 60000 = true) : ∀ k, turB T t sp L k = true → turB T t 60000 L k = true := by
  obtain ⟨s1, s2⟩ := inB_t hs
  intro k
  induction k with
  | zero => intro h; exact h
  | succ k ih =>
    unfold turB
    simp only [Bool.or_eq_true]
    rintro (h | h)
    · exact .inl (ih h)
    · right
      have := inB_t h
      unfold inB
      exact decide_eq_true (by omega)
theorem tr_up {n : Nat} {T X Y : Nat → Int} (h : isTr n T X Y = true) : ∀ j i, i ≤ j → j < n → T i ≤ T j := by
  obtain ⟨_, _, k⟩ := isTr_t h
  intro j
  induction j with
  | zero =>
    intro i hi _
    obtain rfl : i = 0 := by omega
    exact Int.le_refl _
  | succ j ih =>
    intro i hi hj
    by_cases e : i = j + 1
    · subst e; exact Int.le_refl _
    · have h1 := ih i (by omega) (by omega)
      have h2 := (k (j + 1) hj).2.2.2 (by omega)
      rw [Nat.add_sub_cancel] at h2
      omega
set_option maxRecDepth 100000 in
set_option maxHeartbeats 8000000 in
theorem laws_FnTurning (so : Option Addr) (n cap : Nat) (B : Nat → Int) (w : World) (hl : n ≤ maxLen) (h : RowAt w so n 1 (vb B)) (hB : ∀ i, 0 ≤ B i ∧ B i ≤ 255) :
    Calls Try.prog 4 #[.slice so n cap] w fun e w' => e = .returned (.bool true) ∧ Below w.heap.size w w' := by
  unfold maxLen at hl
  by_cases hn : 4096 < n
  · have Hd := hide (decide_eq_true hn)
    go_enter Try.func4, Try.ntmps4
    go_wp2_with (go_at_call 7; (with_reducible refine (laws_big _ _ _ _ (by omega)).mono ?_); rintro e w9 ⟨rfl, rfl⟩; rw [Hd.out])
    go_ret
    exact ⟨rfl, (by repeat (first | with_reducible exact Below.refl _ _ | with_reducible assumption | with_reducible refine Below.drew ?_ | with_reducible refine below_drewN ?_ _ | with_reducible refine Below.setCell ?_ (by first | exact Nat.le_refl _ | (simp; done) | (simp; omega) | (dsimp only; omega)) _ | with_reducible refine Below.alloc ?_ (by first | exact Nat.le_refl _ | (simp; done) | (simp; omega) | (simp at *; omega)) _ | with_reducible refine bstep ?_ (by assumption)))⟩
  have Hd := hide (decide_eq_false hn)
  go_enter Try.func4, Try.ntmps4
  go_wp2_with fail; (with_reducible refine (laws_big _ _ _ _ (by omega)).mono ?_); rintro e w0 ⟨rfl, rfl⟩; rw [Hd.out]
  go_wp2_with fail; (with_reducible refine (spec_DrawTurningAt so n cap B _ h hB (by omega)).mono ?_); rintro e w1 ⟨⟨wx, wy, tm, sp, so2, n2, cap2, T, X, Y, rfl, hn2, hr⟩, hb1⟩; have hz1 := hb1.size
  have HR := hide hr
  have HB1 := hide hb1
  clear hr hb1 hB h Hd
  obtain ⟨b9, hb9⟩ : ∃ x, x = tuB wx wy n2 T X Y tm sp := ⟨_, rfl⟩
  obtain ⟨c9, hc9⟩ : ∃ x, x = tuC wx wy n2 T X Y tm sp := ⟨_, rfl⟩
  have K1 := hide (show ∀ W, Below w1.heap.size w1 W → Calls Try.prog 13 #[.agg #[.int .i64 wx, .int .i64 wy], .agg #[.slice so2 n2 cap2], .int .i64 tm, .int .i64 sp] W fun e w' => e = .returned (.tuple #[.bool b9, .int .i64 c9]) ∧ Below W.heap.size W w' from fun W hb => (impl_TurningAt wx wy so2 n2 cap2 T X Y tm sp W (RowAt.later hb HR.out) (by omega)).mono fun e w' k => ⟨by rw [k.1, hb9, hc9], k.2⟩)
  have K2 := hide (show ∀ W, Below w1.heap.size w1 W → Calls Try.prog 14 #[.agg #[.int .i64 wx, .int .i64 wy], .agg #[.slice so2 n2 cap2], .int .i64 tm, .int .i64 sp] W fun e w' => e = .returned (.tuple #[.bool b9, .int .i64 c9]) ∧ Below W.heap.size W w' from fun W hb => (spec_TurningAt wx wy so2 n2 cap2 T X Y tm sp W (RowAt.later hb HR.out) (by omega)).mono fun e w' k => ⟨by rw [k.1, hb9, hc9], k.2⟩)
  by_cases hc0 : c9 = 0
  · subst hc0
    obtain ⟨v1, v2, v3, v4⟩ := tuC_t hc9.symm
    obtain ⟨y9, hy9⟩ : ∃ x, x = tuB wx wy n2 T X Y tm 60000 := ⟨_, rfl⟩
    have hxy : b9 = true → y9 = true := fun e => by
      rw [hy9, tuB_ok v1 v2 v3 (by decide)]
      rw [hb9, tuB_ok v1 v2 v3 v4] at e
      exact turB_more v4 _ e
    have K3 := hide (show ∀ W, Below w1.heap.size w1 W → Calls Try.prog 13 #[.agg #[.int .i64 wx, .int .i64 wy], .agg #[.slice so2 n2 cap2], .int .i64 tm, .int .i64 60000] W fun e w' => e = .returned (.tuple #[.bool y9, .int .i64 0]) ∧ Below W.heap.size W w' from fun W hb => (impl_TurningAt wx wy so2 n2 cap2 T X Y tm 60000 W (RowAt.later hb HR.out) (by omega)).mono fun e w' k => ⟨by rw [k.1, hy9, tuC_ok v1 v2 v3 (by decide)], k.2⟩)
    obtain ⟨Lm, hL⟩ : ∃ Lm, Lm = mans wx wy X Y (n2 - 2) := ⟨_, rfl⟩
    have K4 := hide (show ∀ W, Below w1.heap.size w1 W → Calls Try.prog 10 #[.agg #[.int .i64 wx, .int .i64 wy], .agg #[.slice so2 n2 cap2]] W (RetL W Lm 0) from fun W hb => by
      have k := spec_ManoeuvresOf wx wy so2 n2 cap2 T X Y W (RowAt.later hb HR.out) (by omega)
      rw [show mnL wx wy n2 T X Y = Lm by unfold mnL; rw [v1, v2, hL]; rfl, show mnC wx wy n2 T X Y = 0 by unfold mnC; rw [v1, v2]; rfl] at k
      exact k)
    have hLX := hide (show ∀ i, i < Lm.length → ∃ j : Nat, LX Lm i = (j : Int) ∧ j < n2 ∧ ∀ W, Below w1.heap.size w1 W → Calls Try.prog 13 #[.agg #[.int .i64 wx, .int .i64 wy], .agg #[.slice so2 n2 cap2], .int .i64 (T j), .int .i64 0] W fun e w' => e = .returned (.tuple #[.bool true, .int .i64 0]) ∧ Below W.heap.size W w' from fun i hi => by
      rw [hL] at hi
      obtain ⟨j, hj, hj1, hj2⟩ := LX_fix hi
      obtain ⟨hn0, _, _⟩ := isTr_t v2
      have hin : inB (T j) (T 0) (T (n2 - 1)) = true := decide_eq_true ⟨tr_up v2 j 0 (by omega) (by omega), tr_up v2 (n2 - 1) j (by omega) (by omega)⟩
      refine ⟨j, by rw [hL]; exact hj, by omega, fun W hb => (impl_TurningAt wx wy so2 n2 cap2 T X Y (T j) 0 W (RowAt.later hb HR.out) (by omega)).mono fun e w' k => ⟨?_, k.2⟩⟩
      rw [k.1, tuC_ok v1 v2 hin (by decide), tuB_ok v1 v2 hin (by decide), turB_yes hi hj (by rw [Int.sub_self]; decide)])
    have hLn : Lm.length ≤ 41 := by rw [hL]; have := mans_le wx wy X Y (n2 - 2); omega
    clear hb9 hc9 hy9 hL v1 v2 v3 v4
    go_wp2_with fail; (with_reducible refine (K1.out _ (by repeat (first | with_reducible exact Below.refl _ _ | with_reducible assumption | with_reducible refine Below.drew ?_ | with_reducible refine below_drewN ?_ _ | with_reducible refine Below.setCell ?_ (by first | exact Nat.le_refl _ | (simp; done) | (simp; omega) | (dsimp only; omega)) _ | with_reducible refine Below.alloc ?_ (by first | exact Nat.le_refl _ | (simp; done) | (simp; omega) | (simp at *; omega)) _ | with_reducible refine bstep ?_ (by assumption)))).mono ?_); rintro e w2 ⟨rfl, hbw2⟩; obtain ⟨hcw2, hfw2⟩ := bcell hbw2; have hzw2 := hbw2.size; have zzw20 : w1.heap.size < w2.heap.size := (by first | omega | (simp at hzw2; omega)); have zzw21 : w1.heap.size + 1 < w2.heap.size := (by first | omega | (simp at hzw2; omega))
    go_wp2_with fail; (with_reducible refine (K2.out _ (by repeat (first | with_reducible exact Below.refl _ _ | with_reducible assumption | with_reducible refine Below.drew ?_ | with_reducible refine below_drewN ?_ _ | with_reducible refine Below.setCell ?_ (by first | exact Nat.le_refl _ | (simp; done) | (simp; omega) | (dsimp only; omega)) _ | with_reducible refine Below.alloc ?_ (by first | exact Nat.le_refl _ | (simp; done) | (simp; omega) | (simp at *; omega)) _ | with_reducible refine bstep ?_ (by assumption)))).mono ?_); rintro e w3 ⟨rfl, hbw3⟩; obtain ⟨hcw3, hfw3⟩ := bcell hbw3; have hzw3 := hbw3.size; have zzw30 : w1.heap.size < w3.heap.size := (by first | omega | (simp at hzw3; omega)); have zzw31 : w1.heap.size + 1 < w3.heap.size := (by first | omega | (simp at hzw3; omega))
    go_wp2_with fail; (with_reducible refine (K3.out _ (by repeat (first | with_reducible exact Below.refl _ _ | with_reducible assumption | with_reducible refine Below.drew ?_ | with_reducible refine below_drewN ?_ _ | with_reducible refine Below.setCell ?_ (by first | exact Nat.le_refl _ | (simp; done) | (simp; omega) | (dsimp only; omega)) _ | with_reducible refine Below.alloc ?_ (by first | exact Nat.le_refl _ | (simp; done) | (simp; omega) | (simp at *; omega)) _ | with_reducible refine bstep ?_ (by assumption)))).mono ?_); rintro e w4 ⟨rfl, hbw4⟩; obtain ⟨hcw4, hfw4⟩ := bcell hbw4; have hzw4 := hbw4.size; have zzw40 : w1.heap.size < w4.heap.size := (by first | omega | (simp at hzw4; omega)); have zzw41 : w1.heap.size + 1 < w4.heap.size := (by first | omega | (simp at hzw4; omega))
    go_wp2_with fail; (with_reducible refine (K4.out _ (by repeat (first | with_reducible exact Below.refl _ _ | with_reducible assumption | with_reducible refine Below.drew ?_ | with_reducible refine below_drewN ?_ _ | with_reducible refine Below.setCell ?_ (by first | exact Nat.le_refl _ | (simp; done) | (simp; omega) | (dsimp only; omega)) _ | with_reducible refine Below.alloc ?_ (by first | exact Nat.le_refl _ | (simp; done) | (simp; omega) | (simp at *; omega)) _ | with_reducible refine bstep ?_ (by assumption)))).mono ?_); rintro e w5 ⟨so5, cp5, rfl, hown5, hb5⟩; obtain ⟨hc5, hf5⟩ := bcell hb5; have hz5 := hb5.size
    have z50 : w1.heap.size < w5.heap.size := by omega
    have z51 : w1.heap.size + 1 < w5.heap.size := by omega
    have c0 : w5.cell? ⟨w1.heap.size, 0, none⟩ = some (.int .i64 wx) := by go_simp
    have c1 : w5.cell? ⟨w1.heap.size, 1, none⟩ = some (.int .i64 wy) := by go_simp
    have c2 : w5.cell? ⟨w1.heap.size + 1, 0, none⟩ = some (.slice so2 n2 cap2) := by go_simp
    have HB5 := hide (show Below w1.heap.size w1 w5 from (by repeat (first | with_reducible exact Below.refl _ _ | with_reducible assumption | with_reducible refine Below.drew ?_ | with_reducible refine below_drewN ?_ _ | with_reducible refine Below.setCell ?_ (by first | exact Nat.le_refl _ | (simp; done) | (simp; omega) | (dsimp only; omega)) _ | with_reducible refine Below.alloc ?_ (by first | exact Nat.le_refl _ | (simp; done) | (simp; omega) | (simp at *; omega)) _ | with_reducible refine bstep ?_ (by assumption))))
    have HL5 := hide hown5.row
    clear hown5 hcw2 hfw2 hcw3 hfw3 hcw4 hfw4 hbw2 hbw3 hbw4 hc5 hf5 hb5 K1 K2 K3 K4
    go_wp2
    go_loopw [15] (fun i wr => ∃ k : Nat, k ≤ Lm.length ∧ i = .int .i64 k ∧ wr.cell? ⟨w1.heap.size, 0, none⟩ = some (.int .i64 wx) ∧ wr.cell? ⟨w1.heap.size, 1, none⟩ = some (.int .i64 wy) ∧ wr.cell? ⟨w1.heap.size + 1, 0, none⟩ = some (.slice so2 n2 cap2) ∧ Below w5.heap.size w5 wr) (fun i _ => Lm.length - (intOf i).toNat)
    case atStart => exact ⟨0, Nat.zero_le _, rfl, c0, c1, c2, Below.refl _ _⟩
    case round =>
      clear c0 c1 c2
      obtain ⟨k, hk, rfl, c0, c1, c2, hbl⟩ := hrel
      have zr := hbl.size
      have HB2 := hide (bstep HB5.out hbl)
      by_cases hlt : k < Lm.length
      · obtain ⟨bL, oL, rfl, hbs, d0, d1⟩ := (RowAt.later hbl HL5.out).at2 k hlt
        obtain ⟨j, hj, hjn, K7⟩ := hLX.out k hlt
        rw [hj] at d0
        have K8 := hide K7
        clear K7 hj d1
        obtain ⟨bT, oT, rfl, hbT, e0, _, _⟩ := (RowAt.later HB2.out HR.out).at3 j hjn
        have hi1 : (0 : Int) ≤ (k : Int) := by omega
        have hi2 : (k : Int) < (Lm.length : Int) := by omega
        have hi3 : (0 : Int) ≤ (j : Int) := by omega
        have hi4 : (j : Int) < (n2 : Int) := by omega
        have zr0 : w1.heap.size < wr.heap.size := by omega
        have zr1 : w1.heap.size + 1 < wr.heap.size := by omega
        go_upto_region 15 with fail
        refine wp_region_held_drew (S := fun W => Below wr.heap.size wr W) (by kernel_rfl) (Below.drew (Below.refl _ _)) (fun hHeld => ?_)
        refine wpAnyH_take (i := 0) (oi := ⟨some 73, _, _, _, _, _⟩) (v := ?_) rfl (by kernel_rfl) (by kernel_rfl) (by kernel_rfl) (fun _ _ _ h => h) (Or.inl ⟨by kernel_rfl, ?_⟩) (by assumption) ?_; rotate_left; focus (intro W0 hSw; have hcS := (bcell hSw).1; go_simp; (try with_reducible rfl)); (try simp only [Act.put, List.setIfInBounds_toArray, List.set_cons_zero, List.set_cons_succ])
        refine wpAnyH_take (i := 1) (oi := ⟨some 74, _, _, _, _, _⟩) (v := ?_) rfl (by kernel_rfl) (by kernel_rfl) (by kernel_rfl) (fun _ _ _ h => h) (Or.inl ⟨by kernel_rfl, ?_⟩) (by assumption) ?_; rotate_left; focus (intro W0 hSw; have hcS := (bcell hSw).1; go_simp; (try with_reducible rfl)); (try simp only [Act.put, List.setIfInBounds_toArray, List.set_cons_zero, List.set_cons_succ])
        refine wpAnyH_take (i := 2) (oi := ⟨some 75, _, _, _, _, _⟩) (v := ?_) rfl (by kernel_rfl) (by kernel_rfl) (by kernel_rfl) (fun _ _ _ h => h) (Or.inl ⟨by kernel_rfl, ?_⟩) (by assumption) ?_; rotate_left; focus (intro W0 hSw; go_simp; (try with_reducible rfl)); (try simp only [Act.put, List.setIfInBounds_toArray, List.set_cons_zero, List.set_cons_succ])
        refine wpAnyH_take (i := 3) (oi := ⟨some 76, _, _, _, _, _⟩) (v := ?_) rfl (by kernel_rfl) (by kernel_rfl) (by kernel_rfl) (fun _ _ _ h => h) (Or.inl ⟨by kernel_rfl, ?_⟩) (by assumption) ?_; rotate_left; focus (intro W0 hSw; have hcS := (bcell hSw).1; go_simp; (try with_reducible rfl)); (try simp only [Act.put, List.setIfInBounds_toArray, List.set_cons_zero, List.set_cons_succ])
        refine wpAnyH_take (i := 4) (oi := ⟨some 77, _, _, _, _, _⟩) (v := ?_) rfl (by kernel_rfl) (by kernel_rfl) (by kernel_rfl) (fun _ _ _ h => h) (Or.inl ⟨by kernel_rfl, ?_⟩) (by assumption) ?_; rotate_left; focus (intro W0 hSw; go_simp; (try with_reducible rfl)); (try simp only [Act.put, List.setIfInBounds_toArray, List.set_cons_zero, List.set_cons_succ])
        refine wpAnyH_take (i := 5) (oi := ⟨some 78, _, _, _, _, _⟩) (v := ?_) rfl (by kernel_rfl) (by kernel_rfl) (by kernel_rfl) (fun _ _ _ h => h) (Or.inl ⟨by kernel_rfl, ?_⟩) (by assumption) ?_; rotate_left; focus (intro W0 hSw; go_simp; (try with_reducible rfl)); (try simp only [Act.put, List.setIfInBounds_toArray, List.set_cons_zero, List.set_cons_succ])
        refine wpAnyH_take (i := 6) (oi := ⟨some 79, _, _, _, _, _⟩) (v := ?_) rfl (by kernel_rfl) (by kernel_rfl) (by kernel_rfl) (fun _ _ _ h => h) (Or.inl ⟨by kernel_rfl, ?_⟩) (by assumption) ?_; rotate_left; focus (intro W0 hSw; go_simp; (try with_reducible rfl)); (try simp only [Act.put, List.setIfInBounds_toArray, List.set_cons_zero, List.set_cons_succ])
        refine wpAnyH_take (i := 7) (oi := ⟨some 80, _, _, _, _, _⟩) (v := ?_) rfl (by kernel_rfl) (by kernel_rfl) (by kernel_rfl) (fun _ _ _ h => h) (Or.inl ⟨by kernel_rfl, ?_⟩) (by assumption) ?_; rotate_left; focus (intro W0 hSw; go_simp; (try with_reducible rfl)); (try simp only [Act.put, List.setIfInBounds_toArray, List.set_cons_zero, List.set_cons_succ])
        refine wpAnyH_take (i := 8) (oi := ⟨some 81, _, _, _, _, _⟩) (v := ?_) rfl (by kernel_rfl) (by kernel_rfl) (by kernel_rfl) (fun _ _ _ h => h) (Or.inl ⟨by kernel_rfl, ?_⟩) (by assumption) ?_; rotate_left; focus (intro W0 hSw; have hcS := (bcell hSw).1; go_simp; (try with_reducible rfl)); (try simp only [Act.put, List.setIfInBounds_toArray, List.set_cons_zero, List.set_cons_succ])
        refine wpAnyH_take (i := 9) (oi := ⟨some 82, _, _, _, _, _⟩) (v := ?_) rfl (by kernel_rfl) (by kernel_rfl) (by kernel_rfl) (fun _ _ _ h => h) (Or.inl ⟨by kernel_rfl, ?_⟩) (by assumption) ?_; rotate_left; focus (intro W0 hSw; go_simp; (try with_reducible rfl)); (try simp only [Act.put, List.setIfInBounds_toArray, List.set_cons_zero, List.set_cons_succ])
        refine wpAnyH_take (i := 10) (oi := ⟨some 83, _, _, _, _, _⟩) (v := ?_) rfl (by kernel_rfl) (by kernel_rfl) (by kernel_rfl) (fun _ _ _ h => h) (Or.inl ⟨by kernel_rfl, ?_⟩) (by assumption) ?_; rotate_left; focus (intro W0 hSw; go_simp; (try with_reducible rfl)); (try simp only [Act.put, List.setIfInBounds_toArray, List.set_cons_zero, List.set_cons_succ])
        refine wpAnyH_take (i := 11) (oi := ⟨some 84, _, _, _, _, _⟩) (v := ?_) rfl (by kernel_rfl) (by kernel_rfl) (by kernel_rfl) (fun _ _ _ h => h) (Or.inl ⟨by kernel_rfl, ?_⟩) (by assumption) ?_; rotate_left; focus (intro W0 hSw; have hcS := (bcell hSw).1; go_simp; (try with_reducible rfl)); (try simp only [Act.put, List.setIfInBounds_toArray, List.set_cons_zero, List.set_cons_succ])
        refine wpAnyH_inv2 (fuel := 0) [12, 13, 14, 15, 16, 17] [] [85, 72, 86, 87, 16, 17] (fun uT L W => Below wr.heap.size wr W ∧ (L 12 → (uT 85) = (.tuple #[.bool true, .int .i64 0])) ∧ (L 13 → (uT 72) = (.tuple #[.bool true, .int .i64 0])) ∧ (L 14 → (uT 86) = (.bool true)) ∧ (L 15 → (uT 87) = (.int .i64 0)) ∧ (L 16 → (uT 16) = (.bool true)) ∧ (L 17 → (uT 17) = (.int .i64 0)) ∧ True) (by decide) (by kernel_rfl) (by kernel_rfl) (fun _ _ _ _ _ h => h) (fun uT L W hJ => hJ.1) (fun uT L hL => ⟨hHeld, fun k => absurd k (hL 12 (by decide)), fun k => absurd k (hL 13 (by decide)), fun k => absurd k (hL 14 (by decide)), fun k => absurd k (hL 15 (by decide)), fun k => absurd k (hL 16 (by decide)), fun k => absurd k (hL 17 (by decide)), trivial⟩) ?_ ?_ ?_
        · refine StepsH.cons (d := 85) (o := ⟨some 85, _, _, _, _, _⟩) rfl rfl (by kernel_rfl) ?_ ?_
          rotate_left
          refine StepsH.cons (d := 72) (o := ⟨some 72, _, _, _, _, _⟩) rfl rfl (by kernel_rfl) ?_ ?_
          rotate_left
          refine StepsH.cons (d := 86) (o := ⟨some 86, _, _, _, _, _⟩) rfl rfl (by kernel_rfl) ?_ ?_
          rotate_left
          refine StepsH.cons (d := 87) (o := ⟨some 87, _, _, _, _, _⟩) rfl rfl (by kernel_rfl) ?_ ?_
          rotate_left
          refine StepsH.cons (d := 16) (o := ⟨some 16, _, _, _, _, _⟩) rfl rfl (by kernel_rfl) ?_ ?_
          rotate_left
          refine StepsH.cons (d := 17) (o := ⟨some 17, _, _, _, _, _⟩) rfl rfl (by kernel_rfl) ?_ ?_
          rotate_left
          exact StepsH.nil
          · intro uT L W hn hd hJ
            obtain ⟨hk, f85, f72, f86, f87, f16, f17, _⟩ := hJ
            intro K hK
            simp only [puts, Act.put, List.setIfInBounds_toArray, List.set_cons_zero, List.set_cons_succ]
            go_simp; (go_at_call 13; (with_reducible refine (K8.out _ (bstep HB2.out hk)).mono ?_); rintro e w9 ⟨rfl, hb⟩; have hzz := hb.size)
            all_goals (try go_wp2_with fail)
            all_goals
              apply Shut.go4 (W := W) hK
              · simp only [puts, Act.put, List.setIfInBounds_toArray, List.set_cons_zero, List.set_cons_succ]; rfl
              · first | with_reducible assumption | with_reducible exact Below.refl _ _ | exact Below.alloc (Below.refl _ _) (Nat.le_refl _) _
              · intro hb; exact ⟨bstep hk hb, fun _ => upd_same _ _ _, fun k => by rw [upd_ne uT _ (by decide)]; exact (f72 (k.resolve_left (by decide))), fun k => by rw [upd_ne uT _ (by decide)]; exact (f86 (k.resolve_left (by decide))), fun k => by rw [upd_ne uT _ (by decide)]; exact (f87 (k.resolve_left (by decide))), fun k => by rw [upd_ne uT _ (by decide)]; exact (f16 (k.resolve_left (by decide))), fun k => by rw [upd_ne uT _ (by decide)]; exact (f17 (k.resolve_left (by decide))), trivial⟩
          · intro uT L W hn hd hJ
            obtain ⟨hk, f85, f72, f86, f87, f16, f17, _⟩ := hJ
            obtain e85 := f85 (hd 12 (by kernel_rfl))
            intro K hK
            simp only [puts, Act.put, List.setIfInBounds_toArray, List.set_cons_zero, List.set_cons_succ, e85]
            go_simp
            all_goals (try go_wp2_with fail)
            all_goals
              apply Shut.go4 (W := W) hK
              · simp only [puts, Act.put, List.setIfInBounds_toArray, List.set_cons_zero, List.set_cons_succ, e85]; rfl
              · first | with_reducible assumption | with_reducible exact Below.refl _ _ | exact Below.alloc (Below.refl _ _) (Nat.le_refl _) _
              · intro hb; exact ⟨bstep hk hb, fun k => by rw [upd_ne uT _ (by decide)]; exact (f85 (k.resolve_left (by decide))), fun _ => upd_same _ _ _, fun k => by rw [upd_ne uT _ (by decide)]; exact (f86 (k.resolve_left (by decide))), fun k => by rw [upd_ne uT _ (by decide)]; exact (f87 (k.resolve_left (by decide))), fun k => by rw [upd_ne uT _ (by decide)]; exact (f16 (k.resolve_left (by decide))), fun k => by rw [upd_ne uT _ (by decide)]; exact (f17 (k.resolve_left (by decide))), trivial⟩
          · intro uT L W hn hd hJ
            obtain ⟨hk, f85, f72, f86, f87, f16, f17, _⟩ := hJ
            obtain e72 := f72 (hd 13 (by kernel_rfl))
            intro K hK
            simp only [puts, Act.put, List.setIfInBounds_toArray, List.set_cons_zero, List.set_cons_succ, e72]
            go_simp
            all_goals (try go_wp2_with fail)
            all_goals
              apply Shut.go4 (W := W) hK
              · simp only [puts, Act.put, List.setIfInBounds_toArray, List.set_cons_zero, List.set_cons_succ, e72]; rfl
              · first | with_reducible assumption | with_reducible exact Below.refl _ _ | exact Below.alloc (Below.refl _ _) (Nat.le_refl _) _
              · intro hb; exact ⟨bstep hk hb, fun k => by rw [upd_ne uT _ (by decide)]; exact (f85 (k.resolve_left (by decide))), fun k => by rw [upd_ne uT _ (by decide)]; exact (f72 (k.resolve_left (by decide))), fun _ => upd_same _ _ _, fun k => by rw [upd_ne uT _ (by decide)]; exact (f87 (k.resolve_left (by decide))), fun k => by rw [upd_ne uT _ (by decide)]; exact (f16 (k.resolve_left (by decide))), fun k => by rw [upd_ne uT _ (by decide)]; exact (f17 (k.resolve_left (by decide))), trivial⟩
          · intro uT L W hn hd hJ
            obtain ⟨hk, f85, f72, f86, f87, f16, f17, _⟩ := hJ
            obtain e72 := f72 (hd 13 (by kernel_rfl))
            intro K hK
            simp only [puts, Act.put, List.setIfInBounds_toArray, List.set_cons_zero, List.set_cons_succ, e72]
            go_simp
            all_goals (try go_wp2_with fail)
            all_goals
              apply Shut.go4 (W := W) hK
              · simp only [puts, Act.put, List.setIfInBounds_toArray, List.set_cons_zero, List.set_cons_succ, e72]; rfl
              · first | with_reducible assumption | with_reducible exact Below.refl _ _ | exact Below.alloc (Below.refl _ _) (Nat.le_refl _) _
              · intro hb; exact ⟨bstep hk hb, fun k => by rw [upd_ne uT _ (by decide)]; exact (f85 (k.resolve_left (by decide))), fun k => by rw [upd_ne uT _ (by decide)]; exact (f72 (k.resolve_left (by decide))), fun k => by rw [upd_ne uT _ (by decide)]; exact (f86 (k.resolve_left (by decide))), fun _ => upd_same _ _ _, fun k => by rw [upd_ne uT _ (by decide)]; exact (f16 (k.resolve_left (by decide))), fun k => by rw [upd_ne uT _ (by decide)]; exact (f17 (k.resolve_left (by decide))), trivial⟩
          · intro uT L W hn hd hJ
            obtain ⟨hk, f85, f72, f86, f87, f16, f17, _⟩ := hJ
            obtain e86 := f86 (hd 14 (by kernel_rfl))
            intro K hK
            simp only [puts, Act.put, List.setIfInBounds_toArray, List.set_cons_zero, List.set_cons_succ, e86]
            go_simp
            all_goals (try go_wp2_with fail)
            all_goals
              apply Shut.go4 (W := W) hK
              · simp only [puts, Act.put, List.setIfInBounds_toArray, List.set_cons_zero, List.set_cons_succ, e86]; rfl
              · first | with_reducible assumption | with_reducible exact Below.refl _ _ | exact Below.alloc (Below.refl _ _) (Nat.le_refl _) _
              · intro hb; exact ⟨bstep hk hb, fun k => by rw [upd_ne uT _ (by decide)]; exact (f85 (k.resolve_left (by decide))), fun k => by rw [upd_ne uT _ (by decide)]; exact (f72 (k.resolve_left (by decide))), fun k => by rw [upd_ne uT _ (by decide)]; exact (f86 (k.resolve_left (by decide))), fun k => by rw [upd_ne uT _ (by decide)]; exact (f87 (k.resolve_left (by decide))), fun _ => upd_same _ _ _, fun k => by rw [upd_ne uT _ (by decide)]; exact (f17 (k.resolve_left (by decide))), trivial⟩
          · intro uT L W hn hd hJ
            obtain ⟨hk, f85, f72, f86, f87, f16, f17, _⟩ := hJ
            obtain e87 := f87 (hd 15 (by kernel_rfl))
            intro K hK
            simp only [puts, Act.put, List.setIfInBounds_toArray, List.set_cons_zero, List.set_cons_succ, e87]
            go_simp
            all_goals (try go_wp2_with fail)
            all_goals
              apply Shut.go4 (W := W) hK
              · simp only [puts, Act.put, List.setIfInBounds_toArray, List.set_cons_zero, List.set_cons_succ, e87]; rfl
              · first | with_reducible assumption | with_reducible exact Below.refl _ _ | exact Below.alloc (Below.refl _ _) (Nat.le_refl _) _
              · intro hb; exact ⟨bstep hk hb, fun k => by rw [upd_ne uT _ (by decide)]; exact (f85 (k.resolve_left (by decide))), fun k => by rw [upd_ne uT _ (by decide)]; exact (f72 (k.resolve_left (by decide))), fun k => by rw [upd_ne uT _ (by decide)]; exact (f86 (k.resolve_left (by decide))), fun k => by rw [upd_ne uT _ (by decide)]; exact (f87 (k.resolve_left (by decide))), fun k => by rw [upd_ne uT _ (by decide)]; exact (f16 (k.resolve_left (by decide))), fun _ => upd_same _ _ _, trivial⟩
        · exact PuresH.nil
        · intro uT L W hJ hL
          obtain ⟨hk, f85, f72, f86, f87, f16, f17, _⟩ := hJ
          obtain e85 := f85 (hL 12 (by kernel_rfl))
          obtain e72 := f72 (hL 13 (by kernel_rfl))
          obtain e86 := f86 (hL 14 (by kernel_rfl))
          obtain e87 := f87 (hL 15 (by kernel_rfl))
          obtain e16 := f16 (hL 16 (by kernel_rfl))
          obtain e17 := f17 (hL 17 (by kernel_rfl))
          clear hHeld; have hcW := (bcell hk).1; have hfW := (bcell hk).2; have lW := Below.size hk; have hHeld := hk
          clear f85
          clear f72
          clear f86
          clear f87
          clear f16
          clear f17
          simp only [puts, Act.put, List.setIfInBounds_toArray, List.set_cons_zero, List.set_cons_succ, setAll, Array.replicate, e85, e72, e86, e87, e16, e17]
          refine wpAnyH_done (by kernel_rfl) ?_ _; (try simp only [Act.put, List.setIfInBounds_toArray, List.set_cons_zero, List.set_cons_succ])
          go_wp2
          go_roundw
          case rel => exact ⟨k + 1, by omega, by go_num, cell_later hHeld c0, cell_later hHeld c1, cell_later hHeld c2, bstep hbl hHeld⟩
          case measure => simp [intOf]; omega
      · obtain rfl : k = Lm.length := by omega
        have HB3 := HB2.out
        cases b9
        · go_wp2
          go_ret
          exact ⟨rfl, HB1.out.trans (HB3.mono hz1)⟩
        · obtain rfl : y9 = true := hxy rfl
          go_wp2
          go_ret
          exact ⟨rfl, HB1.out.trans (HB3.mono hz1)⟩
  · have hcb : (c9 == 0) = false := beq_eq_false_iff_ne.2 hc0
    clear hb9 hc9
    have hb1 := HB1.out
    go_wp2_with fail; (with_reducible refine (K1.out _ (by repeat (first | with_reducible exact Below.refl _ _ | with_reducible assumption | with_reducible refine Below.drew ?_ | with_reducible refine below_drewN ?_ _ | with_reducible refine Below.setCell ?_ (by first | exact Nat.le_refl _ | (simp; done) | (simp; omega) | (dsimp only; omega)) _ | with_reducible refine Below.alloc ?_ (by first | exact Nat.le_refl _ | (simp; done) | (simp; omega) | (simp at *; omega)) _ | with_reducible refine bstep ?_ (by assumption)))).mono ?_); rintro e w2 ⟨rfl, hbw2⟩; obtain ⟨hcw2, hfw2⟩ := bcell hbw2; have hzw2 := hbw2.size; have zzw20 : w1.heap.size < w2.heap.size := (by first | omega | (simp at hzw2; omega)); have zzw21 : w1.heap.size + 1 < w2.heap.size := (by first | omega | (simp at hzw2; omega))
    go_wp2_with fail; (with_reducible refine (K2.out _ (by repeat (first | with_reducible exact Below.refl _ _ | with_reducible assumption | with_reducible refine Below.drew ?_ | with_reducible refine below_drewN ?_ _ | with_reducible refine Below.setCell ?_ (by first | exact Nat.le_refl _ | (simp; done) | (simp; omega) | (dsimp only; omega)) _ | with_reducible refine Below.alloc ?_ (by first | exact Nat.le_refl _ | (simp; done) | (simp; omega) | (simp at *; omega)) _ | with_reducible refine bstep ?_ (by assumption)))).mono ?_); rintro e w3 ⟨rfl, hbw3⟩; obtain ⟨hcw3, hfw3⟩ := bcell hbw3; have hzw3 := hbw3.size; have zzw30 : w1.heap.size < w3.heap.size := (by first | omega | (simp at hzw3; omega)); have zzw31 : w1.heap.size + 1 < w3.heap.size := (by first | omega | (simp at hzw3; omega))
    go_wp2
    go_ret
    exact ⟨rfl, (by repeat (first | with_reducible exact Below.refl _ _ | with_reducible assumption | with_reducible refine Below.drew ?_ | with_reducible refine below_drewN ?_ _ | with_reducible refine Below.setCell ?_ (by first | exact Nat.le_refl _ | (simp; done) | (simp; omega) | (dsimp only; omega)) _ | with_reducible refine Below.alloc ?_ (by first | exact Nat.le_refl _ | (simp; done) | (simp; omega) | (simp at *; omega)) _ | with_reducible refine bstep ?_ (by assumption)))⟩

set_option maxRecDepth 100000 in
theorem FnTurning_lifted (os : Os) (started : os.Started) (H : Type) (enc : TypeId × Value → H) :
    ReturnsInHanded {} Try.checked os 4 .any (Rows.fnTurningSpec.pre6 enc Try.prog Try.f4 Rows.fnTurningRow.domain false) (Rows.fnTurningSpec.post enc Try.prog Try.f4 false true false false) := by
  refine returnsInHanded_of_change (C := Try.checked) Try.own started (by as_aux_lemma => kernel_rfl) Try.func4
    (ChangeSpec.witness6 (enc := enc) (C := Try.checked) false ⟨#[], #[.slice none 0 0], []⟩ 8 (by as_aux_lemma => kernel_rfl) (by as_aux_lemma => kernel_rfl) (by as_aux_lemma => kernel_rfl) (by as_aux_lemma => kernel_rfl)) ?_
  intro W base args ds gs before hval0 hW _ _
  have hval : ∀ (j : Nat) t v, Try.f4.params[j]? = some t → args[j]? = some v → Value.okWide Try.prog W .any base t v := hval0
  have hW' := hW
  obtain ⟨p, q, hA0, hV, rfl, _, _⟩ := hW
  have hA : DataW.TrodAll enc Try.prog W 0 (fun _ => true) true Try.f4.params.toList args.toList ds p := hA0
  rw [Try.params4] at hA hval
  obtain ⟨v0, vs0, d0, ds0, p0, q0, hargs, rfl, rfl, h0, r0⟩ := trodAll_cons hA
  obtain ⟨rfl, rfl, rfl⟩ := trodAll_nil r0
  obtain rfl : args = #[v0] := by cases args; simp_all
  obtain ⟨so0, n0, cp0, B0, rfl, hl0, hr0, hB0⟩ := op_bytes (hval 0 22 v0 rfl rfl) h0
  obtain ⟨rfl, rfl⟩ := trodVars_none hV
  refine (laws_FnTurning so0 n0 cp0 B0 W hl0 hr0 hB0).mono fun e W1 ⟨he, hb⟩ => ⟨_, he, ?_⟩
  exact law_post Try.laidOut (by as_aux_lemma => kernel_rfl) Try.underlying4 rfl rfl hW' rfl rfl rfl hb
set_option maxHeartbeats 8000000 in
theorem FnTurning_closed : joinedFacts Try.prog 4 Try.f4 Rows.fnTurningSpec Rows.fnTurningRow = true := by
  simp only [joinedFacts, Bool.and_eq_true, Try.laidOut, Try.mapsRowed, Try.stopsNone, Try.stopKnobsNone, Try.plainKeysIs, Try.stopsHeardIs, Try.mayEnterIs, Try.liftsFinalIs, Try.makeIs, and_true, true_and]
  repeat' (with_reducible refine And.intro ?_ ?_)
  all_goals (as_aux_lemma => kernel_rfl)
set_option maxHeartbeats 8000000 in
/-- FnTurning: whatever the input, the law returns true, and the input reads as it did. -/
theorem FnTurning_holds : Rows.FnTurningSaid :=
  OpenClaim.holds_of_wide 4 Try.f4 rfl rfl rfl rfl rfl rfl rfl ⟨rfl, rfl, rfl, rfl, rfl⟩ rfl rfl rfl rfl rfl (by as_aux_lemma => kernel_rfl) Try.func4
    FnTurning_closed
    (of_decide_eq_true (by as_aux_lemma => kernel_rfl)) (by unfold Func.isWrapper; rw [if_neg (of_decide_eq_false (by as_aux_lemma => kernel_rfl))]; exact ⟨rfl, rfl⟩)
    (fun os started H enc _ => FnTurning_lifted os started H enc)
#print axioms FnTurning_holds
end Go.Proofs.Ytnmnibpcklcmgaa
