/- FnWindward holds: what is gained to windward on the way there is lost on the way back, and no boat is farther to windward than the windward boat; for every code. No condition. -/
import Derived.Test.YtkhapajjbomknaaK
import Derived.Test.YtkhapajjbomknaaWb
import Derived.Test.YtkhapajjbomknaaDk
import Derived.Test.YtkhapajjbomknaaLaw
import Derived.Test.YtkhapajjbomknaaLb
namespace Go.Proofs.Ytkhapajjbomknaa
open Go.ChangeShapes Go.WideShapes Go.ChangeAt Go.RowKit Go.Deep

theorem fdiv_two (s r : Int) (h : 1 ≤ r) : -s / r + s / r = 0 ∨ -s / r + s / r = -1 := by
  have h1 := Int.mul_ediv_self_le (x := -s) (k := r) (by omega)
  have h2 := Int.lt_mul_ediv_self_add (x := -s) (k := r) (by omega)
  have h3 := Int.mul_ediv_self_le (x := s) (k := r) (by omega)
  have h4 := Int.lt_mul_ediv_self_add (x := s) (k := r) (by omega)
  have e : r * (-s / r + s / r) = r * (-s / r) + r * (s / r) := Int.mul_add _ _ _
  generalize -s / r + s / r = q at *
  have k1 : q ≤ 0 := by
    rcases Int.lt_or_le 0 q with k | k
    · have := Int.mul_le_mul_of_nonneg_left (show (1 : Int) ≤ q by omega) (show (0 : Int) ≤ r by omega)
      omega
    · exact k
  have k2 : -2 < q := by
    rcases Int.lt_or_le (-2) q with k | k
    · exact k
    · have := Int.mul_le_mul_of_nonneg_left (show q ≤ -2 by omega) (show (0 : Int) ≤ r by omega)
      omega
  omega
theorem wg_two {wx wy px py qx qy : Int} (h1 : isWd wx wy = true) (h2 : isPt px py = true) (h3 : isPt qx qy = true) : wgI wx wy px py qx qy + wgI wx wy qx qy px py = 0 ∨ wgI wx wy px py qx qy + wgI wx wy qx qy px py = -1 := by
  have hr := (wg_bd h1 h2 h3).2.2.2.2.2.2.2.2
  have e : -((px - qx) * wx + (py - qy) * wy) = (qx - px) * wx + (qy - py) * wy := by simp only [Int.sub_mul]; omega
  unfold wgI
  rw [e]
  exact fdiv_two _ _ hr
theorem wbest_min (wx wy : Int) (X Y : Nat → Int) : ∀ n i, i < n → X (wbest wx wy X Y n) * wx + Y (wbest wx wy X Y n) * wy ≤ X i * wx + Y i * wy := by
  intro n
  induction n with
  | zero => intro i hi; omega
  | succ n ih =>
    intro i hi
    unfold wbest
    by_cases e : i = n
    · subst e; split <;> omega
    · have := ih i (by omega)
      split <;> omega
theorem wbest_lt (wx wy : Int) (X Y : Nat → Int) (n : Nat) (h : 0 < n) : wbest wx wy X Y n < n := by
  cases n with
  | zero => omega
  | succ n =>
    have := wbest_le wx wy X Y n
    unfold wbest
    split <;> omega
theorem wcode {b1 b2 b3 b4 : Bool} (h : sel b1 (sel b2 (sel b3 (sel b4 4 0) 1) 1) 3 = 0) : b1 = true ∧ b2 = true ∧ b3 = true ∧ b4 = false := by
  revert h; cases b1 <;> cases b2 <;> cases b3 <;> cases b4 <;> simp [sel]
set_option maxRecDepth 100000 in
theorem op_bytes0 {H : Type} {enc : TypeId × Value → H} {w : World} {base : Nat} {spare : Nat → Bool} {held : Bool} {r : Reach} {b0 : Nat} {v : Value} {d : DataW H} {p : List MemPlace}
    (hv : Value.okWide Try.prog w r b0 22 v) (h : DataW.Trod enc Try.prog w base spare held 22 v d p) :
    ∃ so n cap B, v = .slice so n cap ∧ n ≤ maxLen ∧ RowAt w so n 1 (vb B) ∧ (∀ i, 0 ≤ B i ∧ B i ≤ 255) ∧ (so = none → n = 0 ∧ cap = 0) := by
  obtain ⟨so, n, cap, B, rfl, hl, R, hB⟩ := op_bytes hv h
  refine ⟨so, n, cap, B, rfl, hl, R, hB, fun e => ?_⟩
  subst e
  obtain ⟨m, h⟩ := h
  rcases open_slice Try.underlying22 h with ⟨e, _⟩ | ⟨a, len, cap', m', n', D, Pl, e, _⟩
  · simp [Value.cells] at e; exact e
  · simp [Value.cells] at e
set_option maxRecDepth 100000 in
set_option maxHeartbeats 40000000 in
theorem laws_FnWindward (so : Option Addr) (n cap : Nat) (B : Nat → Int) (w : World) (hl : n ≤ maxLen) (h : RowAt w so n 1 (vb B)) (hB : ∀ i, 0 ≤ B i ∧ B i ≤ 255) (h0 : so = none → n = 0 ∧ cap = 0) :
    Calls Try.prog 6 #[.slice so n cap] w fun e w' => e = .returned (.bool true) ∧ Below w.heap.size w w' := by
  unfold maxLen at hl
  by_cases hn : 4096 < n
  · have Hd := hide (decide_eq_true hn)
    go_enter Try.func6, Try.ntmps6
    go_wp2_with (go_at_call 10; (with_reducible refine (laws_big _ _ _ _ (by omega)).mono ?_); rintro e w9 ⟨rfl, rfl⟩; rw [Hd.out])
    go_ret
    exact ⟨rfl, (by repeat (first | with_reducible exact Below.refl _ _ | with_reducible assumption | with_reducible refine Below.drew ?_ | with_reducible refine below_drewN ?_ _ | with_reducible refine Below.setCell ?_ (by first | exact Nat.le_refl _ | (simp; done) | (simp; omega) | (dsimp only; omega)) _ | with_reducible refine Below.alloc ?_ (by first | exact Nat.le_refl _ | (simp; done) | (simp; omega) | (simp at *; omega)) _ | with_reducible refine bstep ?_ (by assumption)))⟩
  have Hd := hide (decide_eq_false hn)
  have H0 := hide h0
  clear h0
  go_enter Try.func6, Try.ntmps6
  go_wp2_with fail; (with_reducible refine (laws_big _ _ _ _ (by omega)).mono ?_); rintro e w0 ⟨rfl, rfl⟩; rw [Hd.out]
  go_wp2_with fail; (with_reducible refine (spec_DrawWindwardGain so n cap B _ h hB (by omega)).mono ?_); rintro e w1 ⟨⟨a, b, c, d, p, q, rfl⟩, hb1⟩; have hz1 := hb1.size
  have hwP : ∃ wP : World, Below w.heap.size w wP := ⟨w, Below.refl _ _⟩
  rcases b2 (isWd a b && isPt c d && isPt p q) with g1 | g1
  · have K1 := hide (show ∀ W, Calls Try.prog 24 #[.agg #[.int .i64 a, .int .i64 b], .agg #[.int .i64 c, .int .i64 d], .agg #[.int .i64 p, .int .i64 q]] W fun e w' => e = .returned (.tuple #[.int .i64 0, .int .i64 1]) ∧ Below W.heap.size W w' from fun W => (impl_WindwardGain a b c d p q W).mono fun e w' k => ⟨by rw [k.1, g1]; rfl, k.2⟩)
    have K2 := hide (show ∀ W, Calls Try.prog 25 #[.agg #[.int .i64 a, .int .i64 b], .agg #[.int .i64 c, .int .i64 d], .agg #[.int .i64 p, .int .i64 q]] W fun e w' => e = .returned (.tuple #[.int .i64 0, .int .i64 1]) ∧ Below W.heap.size W w' from fun W => (spec_WindwardGain a b c d p q W).mono fun e w' k => ⟨by rw [k.1, g1]; rfl, k.2⟩)
    clear g1
    go_wp2_with fail; (with_reducible refine (K1.out _).mono ?_); rintro e w2 ⟨rfl, hbw2⟩; obtain ⟨hcw2, hfw2⟩ := bcell hbw2; have hzw2 := hbw2.size; have zzw20 : w1.heap.size < w2.heap.size := (by first | omega | (simp at hzw2; omega)); have zzw21 : w1.heap.size + 1 < w2.heap.size := (by first | omega | (simp at hzw2; omega)); have zzw22 : w1.heap.size + 1 + 1 < w2.heap.size := (by first | omega | (simp at hzw2; omega))
    go_wp2_with fail; (with_reducible refine (K2.out _).mono ?_); rintro e w3 ⟨rfl, hbw3⟩; obtain ⟨hcw3, hfw3⟩ := bcell hbw3; have hzw3 := hbw3.size; have zzw30 : w1.heap.size < w3.heap.size := (by first | omega | (simp at hzw3; omega)); have zzw31 : w1.heap.size + 1 < w3.heap.size := (by first | omega | (simp at hzw3; omega)); have zzw32 : w1.heap.size + 1 + 1 < w3.heap.size := (by first | omega | (simp at hzw3; omega))
    obtain ⟨wP, hwP⟩ : ∃ wP : World, wP = w3 := ⟨_, rfl⟩
    have hbP := hide (show Below w.heap.size w wP by rw [hwP]; exact (by repeat (first | with_reducible exact Below.refl _ _ | with_reducible assumption | with_reducible refine Below.drew ?_ | with_reducible refine below_drewN ?_ _ | with_reducible refine Below.setCell ?_ (by first | exact Nat.le_refl _ | (simp; done) | (simp; omega) | (dsimp only; omega)) _ | with_reducible refine Below.alloc ?_ (by first | exact Nat.le_refl _ | (simp; done) | (simp; omega) | (simp at *; omega)) _ | with_reducible refine bstep ?_ (by assumption))))
    rw [← hwP]
    clear hcw2 hfw2 hcw3 hfw3 hbw2 hbw3 hwP
    go_wp2_with fail; (with_reducible refine (laws_other so n cap B _ (RowAt.later hbP.out h) hB (by omega) H0.out).mono ?_); rintro e w5 ⟨⟨so', m, cp', B', rfl, hm, hr5, hB5⟩, hb5⟩; have hz5 := hb5.size
    go_wp2_with fail; (with_reducible refine (spec_DrawWindwardBoat so' m cp' B' _ hr5 hB5 (by omega)).mono ?_); rintro e w6 ⟨⟨vx, vy, so2, m2, cp2, X, Y, rfl, hm2, hr6⟩, hb6⟩; have hz6 := hb6.size
    have HB6 := hide (bstep (bstep hbP.out hb5) hb6)
    have HR6 := hide hr6
    clear hr5 hB5 hr6 hb5 hb6 hm
    obtain ⟨kv, hkv⟩ : ∃ x : Int, x = sel (decide (m2 ≤ 16) && isWd vx vy && ptsOk X Y m2) (wbest vx vy X Y m2 : Nat) 0 := ⟨_, rfl⟩
    obtain ⟨cc, hcc⟩ : ∃ x : Int, x = sel (decide (m2 ≤ 16)) (sel (isWd vx vy) (sel (ptsOk X Y m2) (sel (decide (m2 = 0)) 4 0) 1) 1) 3 := ⟨_, rfl⟩
    have K7 := hide (show ∀ W, Below w6.heap.size w6 W → Calls Try.prog 28 #[.agg #[.int .i64 vx, .int .i64 vy], .slice so2 m2 cp2] W fun e w' => e = .returned (.tuple #[.int .i64 kv, .int .i64 cc]) ∧ Below W.heap.size W w' from fun W hb => (impl_WindwardBoat vx vy so2 m2 cp2 X Y W (RowAt.later hb HR6.out) (by omega)).mono fun e w' k => ⟨by rw [k.1, hkv, hcc], k.2⟩)
    have K8 := hide (show ∀ W, Below w6.heap.size w6 W → Calls Try.prog 29 #[.agg #[.int .i64 vx, .int .i64 vy], .slice so2 m2 cp2] W fun e w' => e = .returned (.tuple #[.int .i64 kv, .int .i64 cc]) ∧ Below W.heap.size W w' from fun W hb => (spec_WindwardBoat vx vy so2 m2 cp2 X Y W (RowAt.later hb HR6.out) (by omega)).mono fun e w' k => ⟨by rw [k.1, hkv, hcc], k.2⟩)
    by_cases hc0 : cc = 0
    · subst hc0
      obtain ⟨i1, i2, i3, i4⟩ := wcode hcc.symm
      rw [i1, i2, i3] at hkv
      have hkw : kv = ((wbest vx vy X Y m2 : Nat) : Int) := hkv
      clear hkv hcc
      have hm0 : 0 < m2 := Nat.pos_of_ne_zero (of_decide_eq_false i4)
      have hql := wbest_lt vx vy X Y m2 hm0
      have hqm := wbest_min vx vy X Y m2
      generalize wbest vx vy X Y m2 = qn at *
      subst hkw
      have Hq := hide hqm
      have Hpt := hide (ptsOk_t i3)
      have Hw := hide i2
      clear hqm i1 i2 i3 i4
      go_wp2_with fail; (with_reducible refine (K7.out _ (by repeat (first | with_reducible exact Below.refl _ _ | with_reducible assumption | with_reducible refine Below.drew ?_ | with_reducible refine below_drewN ?_ _ | with_reducible refine Below.setCell ?_ (by first | exact Nat.le_refl _ | (simp; done) | (simp; omega) | (dsimp only; omega)) _ | with_reducible refine Below.alloc ?_ (by first | exact Nat.le_refl _ | (simp; done) | (simp; omega) | (simp at *; omega)) _ | with_reducible refine bstep ?_ (by assumption)))).mono ?_); rintro e w7 ⟨rfl, hbw7⟩; obtain ⟨hcw7, hfw7⟩ := bcell hbw7; have hzw7 := hbw7.size; have zzw70 : w6.heap.size < w7.heap.size := (by first | omega | (simp at hzw7; omega))
      go_wp2_with fail; (with_reducible refine (K8.out _ (by repeat (first | with_reducible exact Below.refl _ _ | with_reducible assumption | with_reducible refine Below.drew ?_ | with_reducible refine below_drewN ?_ _ | with_reducible refine Below.setCell ?_ (by first | exact Nat.le_refl _ | (simp; done) | (simp; omega) | (dsimp only; omega)) _ | with_reducible refine Below.alloc ?_ (by first | exact Nat.le_refl _ | (simp; done) | (simp; omega) | (simp at *; omega)) _ | with_reducible refine bstep ?_ (by assumption)))).mono ?_); rintro e w8 ⟨rfl, hbw8⟩; obtain ⟨hcw8, hfw8⟩ := bcell hbw8; have hzw8 := hbw8.size; have zzw80 : w6.heap.size < w8.heap.size := (by first | omega | (simp at hzw8; omega))
      go_wp2
      have c0 : w8.cell? ⟨w6.heap.size, 0, none⟩ = some (.int .i64 vx) := by go_simp
      have c1 : w8.cell? ⟨w6.heap.size, 1, none⟩ = some (.int .i64 vy) := by go_simp
      have hb8' := hide (show Below w6.heap.size w6 w8 from (by repeat (first | with_reducible exact Below.refl _ _ | with_reducible assumption | with_reducible refine Below.drew ?_ | with_reducible refine below_drewN ?_ _ | with_reducible refine Below.setCell ?_ (by first | exact Nat.le_refl _ | (simp; done) | (simp; omega) | (dsimp only; omega)) _ | with_reducible refine Below.alloc ?_ (by first | exact Nat.le_refl _ | (simp; done) | (simp; omega) | (simp at *; omega)) _ | with_reducible refine bstep ?_ (by assumption))))
      go_loopw [18] (fun i wr => ∃ k : Nat, k ≤ m2 ∧ i = .int .i64 k ∧ wr.cell? ⟨w6.heap.size, 0, none⟩ = some (.int .i64 vx) ∧ wr.cell? ⟨w6.heap.size, 1, none⟩ = some (.int .i64 vy) ∧ Below w6.heap.size w6 wr) (fun i _ => m2 - (intOf i).toNat)
      case atStart => exact ⟨0, Nat.zero_le _, rfl, c0, c1, hb8'.out⟩
      case round =>
        clear c0 c1 hcw7 hfw7 hcw8 hfw8 K7 K8
        obtain ⟨k, hk, rfl, c0, c1, hbl⟩ := hrel
        by_cases hlt : k < m2
        · obtain ⟨b9, o9, rfl, hbs, d0, d1⟩ := (RowAt.later hbl HR6.out).at2 k hlt
          obtain ⟨f0, f1⟩ := (RowAt.later hbl HR6.out).on2 qn hql
          have hi1 : (0 : Int) ≤ (k : Int) := by omega
          have hi2 : (k : Int) < (m2 : Int) := by omega
          have hi3 : (0 : Int) ≤ (qn : Int) := by omega
          have hi4 : (qn : Int) < (m2 : Int) := by omega
          obtain ⟨⟨p1, p2⟩, _, _, p3, p4⟩ := wp_bd Hw.out (Hpt.out k hlt)
          obtain ⟨⟨r1, r2⟩, _, _, r3, r4⟩ := wp_bd Hw.out (Hpt.out qn hql)
          have hm8 : ¬ (X k * vx + Y k * vy < X qn * vx + Y qn * vy) := by have := Hq.out k hlt; omega
          have we1 := hide (show IntKind.i64.wrap (X k * vx) = X k * vx from IntWalk.i64_in _ (by omega)); have we2 := hide (show IntKind.i64.wrap (Y k * vy) = Y k * vy from IntWalk.i64_in _ (by omega)); have we3 := hide (show IntKind.i64.wrap (X k * vx + Y k * vy) = X k * vx + Y k * vy from IntWalk.i64_in _ (by omega)); have we4 := hide (show IntKind.i64.wrap (X qn * vx) = X qn * vx from IntWalk.i64_in _ (by omega)); have we5 := hide (show IntKind.i64.wrap (Y qn * vy) = Y qn * vy from IntWalk.i64_in _ (by omega)); have we6 := hide (show IntKind.i64.wrap (X qn * vx + Y qn * vy) = X qn * vx + Y qn * vy from IntWalk.i64_in _ (by omega))
          go_upto_region 22 with fail
          have wf1 := we1.out; have wf2 := we2.out; have wf3 := we3.out; have wf4 := we4.out; have wf5 := we5.out; have wf6 := we6.out
          go_quiet (fail)
          clear wf1 wf2 wf3 wf4 wf5 wf6
          go_wp2
          go_roundw
          case rel => exact ⟨k + 1, by omega, by go_num, by go_simp, by go_simp, (by repeat (first | with_reducible exact Below.refl _ _ | with_reducible assumption | with_reducible refine Below.drew ?_ | with_reducible refine below_drewN ?_ _ | with_reducible refine Below.setCell ?_ (by first | exact Nat.le_refl _ | (simp; done) | (simp; omega) | (dsimp only; omega)) _ | with_reducible refine Below.alloc ?_ (by first | exact Nat.le_refl _ | (simp; done) | (simp; omega) | (simp at *; omega)) _ | with_reducible refine bstep ?_ (by assumption)))⟩
          case measure => simp [intOf]; omega
        · obtain rfl : k = m2 := by omega
          go_wp2
          go_ret
          exact ⟨rfl, bstep HB6.out hbl⟩
    · have hcb : (cc == 0) = false := beq_eq_false_iff_ne.2 hc0
      clear hkv hcc
      go_wp2_with fail; (with_reducible refine (K7.out _ (by repeat (first | with_reducible exact Below.refl _ _ | with_reducible assumption | with_reducible refine Below.drew ?_ | with_reducible refine below_drewN ?_ _ | with_reducible refine Below.setCell ?_ (by first | exact Nat.le_refl _ | (simp; done) | (simp; omega) | (dsimp only; omega)) _ | with_reducible refine Below.alloc ?_ (by first | exact Nat.le_refl _ | (simp; done) | (simp; omega) | (simp at *; omega)) _ | with_reducible refine bstep ?_ (by assumption)))).mono ?_); rintro e w7 ⟨rfl, hbw7⟩; obtain ⟨hcw7, hfw7⟩ := bcell hbw7; have hzw7 := hbw7.size; have zzw70 : w6.heap.size < w7.heap.size := (by first | omega | (simp at hzw7; omega))
      go_wp2_with fail; (with_reducible refine (K8.out _ (by repeat (first | with_reducible exact Below.refl _ _ | with_reducible assumption | with_reducible refine Below.drew ?_ | with_reducible refine below_drewN ?_ _ | with_reducible refine Below.setCell ?_ (by first | exact Nat.le_refl _ | (simp; done) | (simp; omega) | (dsimp only; omega)) _ | with_reducible refine Below.alloc ?_ (by first | exact Nat.le_refl _ | (simp; done) | (simp; omega) | (simp at *; omega)) _ | with_reducible refine bstep ?_ (by assumption)))).mono ?_); rintro e w8 ⟨rfl, hbw8⟩; obtain ⟨hcw8, hfw8⟩ := bcell hbw8; have hzw8 := hbw8.size; have zzw80 : w6.heap.size < w8.heap.size := (by first | omega | (simp at hzw8; omega))
      go_wp2
      go_ret
      exact ⟨rfl, bstep HB6.out (show Below w6.heap.size w6 w8 from (by repeat (first | with_reducible exact Below.refl _ _ | with_reducible assumption | with_reducible refine Below.drew ?_ | with_reducible refine below_drewN ?_ _ | with_reducible refine Below.setCell ?_ (by first | exact Nat.le_refl _ | (simp; done) | (simp; omega) | (dsimp only; omega)) _ | with_reducible refine Below.alloc ?_ (by first | exact Nat.le_refl _ | (simp; done) | (simp; omega) | (simp at *; omega)) _ | with_reducible refine bstep ?_ (by assumption))))⟩
  · simp only [Bool.and_eq_true] at g1
    obtain ⟨⟨g1, g2⟩, g3⟩ := g1
    have hab := wg_two g1 g2 g3
    obtain ⟨s, hs⟩ : ∃ x, x = wgI a b c d p q := ⟨_, rfl⟩
    obtain ⟨t, ht⟩ : ∃ x, x = wgI a b p q c d := ⟨_, rfl⟩
    rw [← hs, ← ht] at hab
    have K1 := hide (show ∀ W, Calls Try.prog 24 #[.agg #[.int .i64 a, .int .i64 b], .agg #[.int .i64 c, .int .i64 d], .agg #[.int .i64 p, .int .i64 q]] W fun e w' => e = .returned (.tuple #[.int .i64 s, .int .i64 0]) ∧ Below W.heap.size W w' from fun W => (impl_WindwardGain a b c d p q W).mono fun e w' k => ⟨by rw [k.1, g1, g2, g3, ← hs]; rfl, k.2⟩)
    have K2 := hide (show ∀ W, Calls Try.prog 25 #[.agg #[.int .i64 a, .int .i64 b], .agg #[.int .i64 c, .int .i64 d], .agg #[.int .i64 p, .int .i64 q]] W fun e w' => e = .returned (.tuple #[.int .i64 s, .int .i64 0]) ∧ Below W.heap.size W w' from fun W => (spec_WindwardGain a b c d p q W).mono fun e w' k => ⟨by rw [k.1, g1, g2, g3, ← hs]; rfl, k.2⟩)
    have K3 := hide (show ∀ W, Calls Try.prog 24 #[.agg #[.int .i64 a, .int .i64 b], .agg #[.int .i64 p, .int .i64 q], .agg #[.int .i64 c, .int .i64 d]] W fun e w' => e = .returned (.tuple #[.int .i64 t, .int .i64 0]) ∧ Below W.heap.size W w' from fun W => (impl_WindwardGain a b p q c d W).mono fun e w' k => ⟨by rw [k.1, g1, g3, g2, ← ht]; rfl, k.2⟩)
    clear g1 g2 g3 hs ht
    go_wp2_with fail; (with_reducible refine (K1.out _).mono ?_); rintro e w2 ⟨rfl, hbw2⟩; obtain ⟨hcw2, hfw2⟩ := bcell hbw2; have hzw2 := hbw2.size; have zzw20 : w1.heap.size < w2.heap.size := (by first | omega | (simp at hzw2; omega)); have zzw21 : w1.heap.size + 1 < w2.heap.size := (by first | omega | (simp at hzw2; omega)); have zzw22 : w1.heap.size + 1 + 1 < w2.heap.size := (by first | omega | (simp at hzw2; omega))
    go_wp2_with fail; (with_reducible refine (K2.out _).mono ?_); rintro e w3 ⟨rfl, hbw3⟩; obtain ⟨hcw3, hfw3⟩ := bcell hbw3; have hzw3 := hbw3.size; have zzw30 : w1.heap.size < w3.heap.size := (by first | omega | (simp at hzw3; omega)); have zzw31 : w1.heap.size + 1 < w3.heap.size := (by first | omega | (simp at hzw3; omega)); have zzw32 : w1.heap.size + 1 + 1 < w3.heap.size := (by first | omega | (simp at hzw3; omega))
    go_wp2_with fail; (with_reducible refine (K3.out _).mono ?_); rintro e w4 ⟨rfl, hbw4⟩; obtain ⟨hcw4, hfw4⟩ := bcell hbw4; have hzw4 := hbw4.size; have zzw40 : w1.heap.size < w4.heap.size := (by first | omega | (simp at hzw4; omega)); have zzw41 : w1.heap.size + 1 < w4.heap.size := (by first | omega | (simp at hzw4; omega)); have zzw42 : w1.heap.size + 1 + 1 < w4.heap.size := (by first | omega | (simp at hzw4; omega))
    obtain ⟨wP, hwP⟩ : ∃ wP : World, wP = w4 := ⟨_, rfl⟩
    have hbP := hide (show Below w.heap.size w wP by rw [hwP]; exact (by repeat (first | with_reducible exact Below.refl _ _ | with_reducible assumption | with_reducible refine Below.drew ?_ | with_reducible refine below_drewN ?_ _ | with_reducible refine Below.setCell ?_ (by first | exact Nat.le_refl _ | (simp; done) | (simp; omega) | (dsimp only; omega)) _ | with_reducible refine Below.alloc ?_ (by first | exact Nat.le_refl _ | (simp; done) | (simp; omega) | (simp at *; omega)) _ | with_reducible refine bstep ?_ (by assumption))))
    rw [← hwP]
    clear hcw2 hfw2 hcw3 hfw3 hcw4 hfw4 hbw2 hbw3 hbw4 hwP
    rcases hab with hab | hab
    all_goals
      have we : IntKind.i64.wrap (s + t) = s + t := IntWalk.i64_in _ (by omega)
      rw [hab] at we
      go_wp2_with fail; (with_reducible refine (laws_other so n cap B _ (RowAt.later hbP.out h) hB (by omega) H0.out).mono ?_); rintro e w5 ⟨⟨so', m, cp', B', rfl, hm, hr5, hB5⟩, hb5⟩; have hz5 := hb5.size
      go_wp2_with fail; (with_reducible refine (spec_DrawWindwardBoat so' m cp' B' _ hr5 hB5 (by omega)).mono ?_); rintro e w6 ⟨⟨vx, vy, so2, m2, cp2, X, Y, rfl, hm2, hr6⟩, hb6⟩; have hz6 := hb6.size
      have HB6 := hide (bstep (bstep hbP.out hb5) hb6)
      have HR6 := hide hr6
      clear hr5 hB5 hr6 hb5 hb6 hm
      obtain ⟨kv, hkv⟩ : ∃ x : Int, x = sel (decide (m2 ≤ 16) && isWd vx vy && ptsOk X Y m2) (wbest vx vy X Y m2 : Nat) 0 := ⟨_, rfl⟩
      obtain ⟨cc, hcc⟩ : ∃ x : Int, x = sel (decide (m2 ≤ 16)) (sel (isWd vx vy) (sel (ptsOk X Y m2) (sel (decide (m2 = 0)) 4 0) 1) 1) 3 := ⟨_, rfl⟩
      have K7 := hide (show ∀ W, Below w6.heap.size w6 W → Calls Try.prog 28 #[.agg #[.int .i64 vx, .int .i64 vy], .slice so2 m2 cp2] W fun e w' => e = .returned (.tuple #[.int .i64 kv, .int .i64 cc]) ∧ Below W.heap.size W w' from fun W hb => (impl_WindwardBoat vx vy so2 m2 cp2 X Y W (RowAt.later hb HR6.out) (by omega)).mono fun e w' k => ⟨by rw [k.1, hkv, hcc], k.2⟩)
      have K8 := hide (show ∀ W, Below w6.heap.size w6 W → Calls Try.prog 29 #[.agg #[.int .i64 vx, .int .i64 vy], .slice so2 m2 cp2] W fun e w' => e = .returned (.tuple #[.int .i64 kv, .int .i64 cc]) ∧ Below W.heap.size W w' from fun W hb => (spec_WindwardBoat vx vy so2 m2 cp2 X Y W (RowAt.later hb HR6.out) (by omega)).mono fun e w' k => ⟨by rw [k.1, hkv, hcc], k.2⟩)
      by_cases hc0 : cc = 0
      · subst hc0
        obtain ⟨i1, i2, i3, i4⟩ := wcode hcc.symm
        rw [i1, i2, i3] at hkv
        have hkw : kv = ((wbest vx vy X Y m2 : Nat) : Int) := hkv
        clear hkv hcc
        have hm0 : 0 < m2 := Nat.pos_of_ne_zero (of_decide_eq_false i4)
        have hql := wbest_lt vx vy X Y m2 hm0
        have hqm := wbest_min vx vy X Y m2
        generalize wbest vx vy X Y m2 = qn at *
        subst hkw
        have Hq := hide hqm
        have Hpt := hide (ptsOk_t i3)
        have Hw := hide i2
        clear hqm i1 i2 i3 i4
        go_wp2_with fail; (with_reducible refine (K7.out _ (by repeat (first | with_reducible exact Below.refl _ _ | with_reducible assumption | with_reducible refine Below.drew ?_ | with_reducible refine below_drewN ?_ _ | with_reducible refine Below.setCell ?_ (by first | exact Nat.le_refl _ | (simp; done) | (simp; omega) | (dsimp only; omega)) _ | with_reducible refine Below.alloc ?_ (by first | exact Nat.le_refl _ | (simp; done) | (simp; omega) | (simp at *; omega)) _ | with_reducible refine bstep ?_ (by assumption)))).mono ?_); rintro e w7 ⟨rfl, hbw7⟩; obtain ⟨hcw7, hfw7⟩ := bcell hbw7; have hzw7 := hbw7.size; have zzw70 : w6.heap.size < w7.heap.size := (by first | omega | (simp at hzw7; omega))
        go_wp2_with fail; (with_reducible refine (K8.out _ (by repeat (first | with_reducible exact Below.refl _ _ | with_reducible assumption | with_reducible refine Below.drew ?_ | with_reducible refine below_drewN ?_ _ | with_reducible refine Below.setCell ?_ (by first | exact Nat.le_refl _ | (simp; done) | (simp; omega) | (dsimp only; omega)) _ | with_reducible refine Below.alloc ?_ (by first | exact Nat.le_refl _ | (simp; done) | (simp; omega) | (simp at *; omega)) _ | with_reducible refine bstep ?_ (by assumption)))).mono ?_); rintro e w8 ⟨rfl, hbw8⟩; obtain ⟨hcw8, hfw8⟩ := bcell hbw8; have hzw8 := hbw8.size; have zzw80 : w6.heap.size < w8.heap.size := (by first | omega | (simp at hzw8; omega))
        go_wp2
        have c0 : w8.cell? ⟨w6.heap.size, 0, none⟩ = some (.int .i64 vx) := by go_simp
        have c1 : w8.cell? ⟨w6.heap.size, 1, none⟩ = some (.int .i64 vy) := by go_simp
        have hb8' := hide (show Below w6.heap.size w6 w8 from (by repeat (first | with_reducible exact Below.refl _ _ | with_reducible assumption | with_reducible refine Below.drew ?_ | with_reducible refine below_drewN ?_ _ | with_reducible refine Below.setCell ?_ (by first | exact Nat.le_refl _ | (simp; done) | (simp; omega) | (dsimp only; omega)) _ | with_reducible refine Below.alloc ?_ (by first | exact Nat.le_refl _ | (simp; done) | (simp; omega) | (simp at *; omega)) _ | with_reducible refine bstep ?_ (by assumption))))
        go_loopw [18] (fun i wr => ∃ k : Nat, k ≤ m2 ∧ i = .int .i64 k ∧ wr.cell? ⟨w6.heap.size, 0, none⟩ = some (.int .i64 vx) ∧ wr.cell? ⟨w6.heap.size, 1, none⟩ = some (.int .i64 vy) ∧ Below w6.heap.size w6 wr) (fun i _ => m2 - (intOf i).toNat)
        case atStart => exact ⟨0, Nat.zero_le _, rfl, c0, c1, hb8'.out⟩
        case round =>
          clear c0 c1 hcw7 hfw7 hcw8 hfw8 K7 K8
          obtain ⟨k, hk, rfl, c0, c1, hbl⟩ := hrel
          by_cases hlt : k < m2
          · obtain ⟨b9, o9, rfl, hbs, d0, d1⟩ := (RowAt.later hbl HR6.out).at2 k hlt
            obtain ⟨f0, f1⟩ := (RowAt.later hbl HR6.out).on2 qn hql
            have hi1 : (0 : Int) ≤ (k : Int) := by omega
            have hi2 : (k : Int) < (m2 : Int) := by omega
            have hi3 : (0 : Int) ≤ (qn : Int) := by omega
            have hi4 : (qn : Int) < (m2 : Int) := by omega
            obtain ⟨⟨p1, p2⟩, _, _, p3, p4⟩ := wp_bd Hw.out (Hpt.out k hlt)
            obtain ⟨⟨r1, r2⟩, _, _, r3, r4⟩ := wp_bd Hw.out (Hpt.out qn hql)
            have hm8 : ¬ (X k * vx + Y k * vy < X qn * vx + Y qn * vy) := by have := Hq.out k hlt; omega
            have we1 := hide (show IntKind.i64.wrap (X k * vx) = X k * vx from IntWalk.i64_in _ (by omega)); have we2 := hide (show IntKind.i64.wrap (Y k * vy) = Y k * vy from IntWalk.i64_in _ (by omega)); have we3 := hide (show IntKind.i64.wrap (X k * vx + Y k * vy) = X k * vx + Y k * vy from IntWalk.i64_in _ (by omega)); have we4 := hide (show IntKind.i64.wrap (X qn * vx) = X qn * vx from IntWalk.i64_in _ (by omega)); have we5 := hide (show IntKind.i64.wrap (Y qn * vy) = Y qn * vy from IntWalk.i64_in _ (by omega)); have we6 := hide (show IntKind.i64.wrap (X qn * vx + Y qn * vy) = X qn * vx + Y qn * vy from IntWalk.i64_in _ (by omega))
            go_upto_region 22 with fail
            have wf1 := we1.out; have wf2 := we2.out; have wf3 := we3.out; have wf4 := we4.out; have wf5 := we5.out; have wf6 := we6.out
            go_quiet (fail)
            clear wf1 wf2 wf3 wf4 wf5 wf6
            go_wp2
            go_roundw
            case rel => exact ⟨k + 1, by omega, by go_num, by go_simp, by go_simp, (by repeat (first | with_reducible exact Below.refl _ _ | with_reducible assumption | with_reducible refine Below.drew ?_ | with_reducible refine below_drewN ?_ _ | with_reducible refine Below.setCell ?_ (by first | exact Nat.le_refl _ | (simp; done) | (simp; omega) | (dsimp only; omega)) _ | with_reducible refine Below.alloc ?_ (by first | exact Nat.le_refl _ | (simp; done) | (simp; omega) | (simp at *; omega)) _ | with_reducible refine bstep ?_ (by assumption)))⟩
            case measure => simp [intOf]; omega
          · obtain rfl : k = m2 := by omega
            go_wp2
            go_ret
            exact ⟨rfl, bstep HB6.out hbl⟩
      · have hcb : (cc == 0) = false := beq_eq_false_iff_ne.2 hc0
        clear hkv hcc
        go_wp2_with fail; (with_reducible refine (K7.out _ (by repeat (first | with_reducible exact Below.refl _ _ | with_reducible assumption | with_reducible refine Below.drew ?_ | with_reducible refine below_drewN ?_ _ | with_reducible refine Below.setCell ?_ (by first | exact Nat.le_refl _ | (simp; done) | (simp; omega) | (dsimp only; omega)) _ | with_reducible refine Below.alloc ?_ (by first | exact Nat.le_refl _ | (simp; done) | (simp; omega) | (simp at *; omega)) _ | with_reducible refine bstep ?_ (by assumption)))).mono ?_); rintro e w7 ⟨rfl, hbw7⟩; obtain ⟨hcw7, hfw7⟩ := bcell hbw7; have hzw7 := hbw7.size; have zzw70 : w6.heap.size < w7.heap.size := (by first | omega | (simp at hzw7; omega))
        go_wp2_with fail; (with_reducible refine (K8.out _ (by repeat (first | with_reducible exact Below.refl _ _ | with_reducible assumption | with_reducible refine Below.drew ?_ | with_reducible refine below_drewN ?_ _ | with_reducible refine Below.setCell ?_ (by first | exact Nat.le_refl _ | (simp; done) | (simp; omega) | (dsimp only; omega)) _ | with_reducible refine Below.alloc ?_ (by first | exact Nat.le_refl _ | (simp; done) | (simp; omega) | (simp at *; omega)) _ | with_reducible refine bstep ?_ (by assumption)))).mono ?_); rintro e w8 ⟨rfl, hbw8⟩; obtain ⟨hcw8, hfw8⟩ := bcell hbw8; have hzw8 := hbw8.size; have zzw80 : w6.heap.size < w8.heap.size := (by first | omega | (simp at hzw8; omega))
        go_wp2
        go_ret
        exact ⟨rfl, bstep HB6.out (show Below w6.heap.size w6 w8 from (by repeat (first | with_reducible exact Below.refl _ _ | with_reducible assumption | with_reducible refine Below.drew ?_ | with_reducible refine below_drewN ?_ _ | with_reducible refine Below.setCell ?_ (by first | exact Nat.le_refl _ | (simp; done) | (simp; omega) | (dsimp only; omega)) _ | with_reducible refine Below.alloc ?_ (by first | exact Nat.le_refl _ | (simp; done) | (simp; omega) | (simp at *; omega)) _ | with_reducible refine bstep ?_ (by assumption))))⟩

set_option maxRecDepth 100000 in
theorem FnWindward_lifted (os : Os) (started : os.Started) (H : Type) (enc : TypeId × Value → H) :
    ReturnsInHanded {} Try.checked os 6 .any (Rows.fnWindwardSpec.pre6 enc Try.prog Try.f6 Rows.fnWindwardRow.domain false) (Rows.fnWindwardSpec.post enc Try.prog Try.f6 false true false false) := by
  refine returnsInHanded_of_change (C := Try.checked) Try.own started (by as_aux_lemma => kernel_rfl) Try.func6
    (ChangeSpec.witness6 (enc := enc) (C := Try.checked) false ⟨#[], #[.slice none 0 0], []⟩ 8 (by as_aux_lemma => kernel_rfl) (by as_aux_lemma => kernel_rfl) (by as_aux_lemma => kernel_rfl) (by as_aux_lemma => kernel_rfl)) ?_
  intro W base args ds gs before hval0 hW _ _
  have hval : ∀ (j : Nat) t v, Try.f6.params[j]? = some t → args[j]? = some v → Value.okWide Try.prog W .any base t v := hval0
  have hW' := hW
  obtain ⟨p, q, hA0, hV, rfl, _, _⟩ := hW
  have hA : DataW.TrodAll enc Try.prog W 0 (fun _ => true) true Try.f6.params.toList args.toList ds p := hA0
  rw [Try.params6] at hA hval
  obtain ⟨v0, vs0, d0, ds0, p0, q0, hargs, rfl, rfl, h0, r0⟩ := trodAll_cons hA
  obtain ⟨rfl, rfl, rfl⟩ := trodAll_nil r0
  obtain rfl : args = #[v0] := by cases args; simp_all
  obtain ⟨so0, n0, cp0, B0, rfl, hl0, hr0, hB0, hz0⟩ := op_bytes0 (hval 0 22 v0 rfl rfl) h0
  obtain ⟨rfl, rfl⟩ := trodVars_none hV
  refine (laws_FnWindward so0 n0 cp0 B0 W hl0 hr0 hB0 hz0).mono fun e W1 ⟨he, hb⟩ => ⟨_, he, ?_⟩
  exact law_post Try.laidOut (by as_aux_lemma => kernel_rfl) Try.underlying4 rfl rfl hW' rfl rfl rfl hb
set_option maxHeartbeats 8000000 in
theorem FnWindward_closed : joinedFacts Try.prog 6 Try.f6 Rows.fnWindwardSpec Rows.fnWindwardRow = true := by
  simp only [joinedFacts, Bool.and_eq_true, Try.laidOut, Try.mapsRowed, Try.stopsNone, Try.stopKnobsNone, Try.plainKeysIs, Try.stopsHeardIs, Try.mayEnterIs, Try.liftsFinalIs, Try.makeIs, and_true, true_and]
  repeat' (with_reducible refine And.intro ?_ ?_)
  all_goals (as_aux_lemma => kernel_rfl)
set_option maxHeartbeats 8000000 in
/-- FnWindward: whatever the input, the law returns true, and the input reads as it did. -/
theorem FnWindward_holds : Rows.FnWindwardSaid :=
  OpenClaim.holds_of_wide 6 Try.f6 rfl rfl rfl rfl rfl rfl rfl ⟨rfl, rfl, rfl, rfl, rfl⟩ rfl rfl rfl rfl rfl (by as_aux_lemma => kernel_rfl) Try.func6
    FnWindward_closed
    (of_decide_eq_true (by as_aux_lemma => kernel_rfl)) (by unfold Func.isWrapper; rw [if_neg (of_decide_eq_false (by as_aux_lemma => kernel_rfl))]; exact ⟨rfl, rfl⟩)
    (fun os started H enc _ => FnWindward_lifted os started H enc)
#print axioms FnWindward_holds
end Go.Proofs.Ytkhapajjbomknaa
