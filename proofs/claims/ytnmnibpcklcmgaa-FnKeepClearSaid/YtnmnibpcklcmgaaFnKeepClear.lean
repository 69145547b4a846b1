/- FnKeepClear holds: the table of boats that keep clear agrees with the rulings, and never are two boats told to keep clear of one another; for every code. No condition. -/
import Derived.Test.YtnmnibpcklcmgaaDc
import Derived.Test.YtnmnibpcklcmgaaRs
import Derived.Test.YtnmnibpcklcmgaaLk
import Derived.Test.YtnmnibpcklcmgaaN
import Derived.Test.YtnmnibpcklcmgaaIb
import Derived.Test.YtnmnibpcklcmgaaIw
import Derived.Test.YtnmnibpcklcmgaaLaw
import Derived.Test.YtnmnibpcklcmgaaLb
namespace Go.Proofs.Ytnmnibpcklcmgaa
open Go.ChangeShapes Go.WideShapes Go.ChangeAt Go.RowKit

theorem kcN_le16 (wx wy : Int) (X Y H K L : Nat → Int) (n : Nat) : kcN wx wy X Y H K L n ≤ 16 := by
  unfold kcN
  split
  · rename_i h
    simp only [Bool.and_eq_true, decide_eq_true_eq] at h
    exact h.1.1
  · omega
/-- Two boats: their ruling, and who stands in whose row. -/
theorem kc_pair (wx wy : Int) (X Y H K L : Nat → Int) (U : Nat → Bool) {n i k : Nat} (hk : k < i) (hi : i < n) :
    ∃ r1 r2, rulI wx wy (X i) (Y i) (H i) (K i) (L i) (U i) (X k) (Y k) (H k) (K k) (L k) (U k) = (r1, r2) ∧
      decide ((k : Int) ∈ kcL (kq wx wy X Y H K L U) i n) = (r1 == 1) ∧ decide ((i : Int) ∈ kcL (kq wx wy X Y H K L U) k n) = (r1 == 2) := by
  obtain ⟨r1, r2, x1, e1, e2, hc⟩ := rul_both wx wy (X i) (Y i) (H i) (K i) (L i) (U i) (X k) (Y k) (H k) (K k) (L k) (U k)
  refine ⟨r1, r2, e1, ?_, ?_⟩
  · have q1 : kq wx wy X Y H K L U i k = (r1 == 1) := by unfold kq; rw [e1]
    rw [Bool.eq_iff_iff, decide_eq_true_iff, kcL_mem, q1]
    constructor
    · exact fun h => h.2.2
    · exact fun h => ⟨by omega, by omega, h⟩
  · have q2 : kq wx wy X Y H K L U k i = (x1 == 1) := by unfold kq; rw [e2]
    have q3 : (x1 == 1) = (r1 == 2) := by rcases hc with ⟨rfl, rfl⟩ | ⟨rfl, rfl⟩ | ⟨rfl, rfl⟩ <;> rfl
    rw [Bool.eq_iff_iff, decide_eq_true_iff, kcL_mem, q2, q3]
    constructor
    · exact fun h => h.2.2
    · exact fun h => ⟨hi, by omega, h⟩
set_option maxRecDepth 100000 in
set_option maxHeartbeats 16000000 in
theorem laws_FnKeepClear (so : Option Addr) (n cap : Nat) (B : Nat → Int) (w : World) (hl : n ≤ maxLen) (h : RowAt w so n 1 (vb B)) (hB : ∀ i, 0 ≤ B i ∧ B i ≤ 255) :
    Calls Try.prog 6 #[.slice so n cap] w fun e w' => e = .returned (.bool true) ∧ Below w.heap.size w w' := by
  unfold maxLen at hl
  by_cases hn : 4096 < n
  · have Hd := hide (decide_eq_true hn)
    go_enter Try.func6, Try.ntmps6
    go_wp2_with (go_at_call 7; (with_reducible refine (laws_big _ _ _ _ (by omega)).mono ?_); rintro e w9 ⟨rfl, rfl⟩; rw [Hd.out])
    go_ret
    exact ⟨rfl, (by repeat (first | with_reducible exact Below.refl _ _ | with_reducible assumption | with_reducible refine Below.drew ?_ | with_reducible refine below_drewN ?_ _ | with_reducible refine Below.setCell ?_ (by first | exact Nat.le_refl _ | (simp; done) | (simp; omega) | (dsimp only; omega)) _ | with_reducible refine Below.alloc ?_ (by first | exact Nat.le_refl _ | (simp; done) | (simp; omega) | (simp at *; omega)) _ | with_reducible refine bstep ?_ (by assumption)))⟩
  have Hd := hide (decide_eq_false hn)
  go_enter Try.func6, Try.ntmps6
  go_wp2_with fail; (with_reducible refine (laws_big _ _ _ _ (by omega)).mono ?_); rintro e w0 ⟨rfl, rfl⟩; rw [Hd.out]
  go_wp2_with fail; (with_reducible refine (spec_DrawKeepClearTable so n cap B _ h hB (by omega)).mono ?_); rintro e w1 ⟨⟨wx, wy, so2, n2, cap2, X, Y, H, K, L, U, rfl, hn2, hr⟩, hb1⟩; have hz1 := hb1.size
  have HR := hide hr
  have HB1 := hide hb1
  clear hr hb1 hB h Hd
  obtain ⟨m, hm⟩ : ∃ m, m = kcN wx wy X Y H K L n2 := ⟨_, rfl⟩
  obtain ⟨c9, hc9⟩ : ∃ x, x = kcC wx wy X Y H K L n2 := ⟨_, rfl⟩
  obtain ⟨R, hR⟩ : ∃ R : Nat → List Int, R = fun j => kcL (kq wx wy X Y H K L U) j n2 := ⟨_, rfl⟩
  have hm16 : m ≤ 16 := by rw [hm]; exact kcN_le16 wx wy X Y H K L n2
  have hR17 : ∀ j, (R j).length ≤ 17 := fun j => by rw [hR]; exact Nat.le_trans (kcL_len _ _ _) hn2
  have HM := hide hm
  have HC := hide hc9
  have HRR := hide hR
  have HL17 := hide hR17
  clear hm hc9 hR hR17
  have K1 := hide (show ∀ W, Below w1.heap.size w1 W → Calls Try.prog 22 #[.agg #[.int .i64 wx, .int .i64 wy], .slice so2 n2 cap2] W (RetT W m R c9) from fun W hb => by rw [HM.out, HC.out, HRR.out]; exact impl_KeepClearTable wx wy so2 n2 cap2 X Y H K L U W (RowAt.later hb HR.out) (by omega))
  have K2 := hide (show ∀ W, Below w1.heap.size w1 W → Calls Try.prog 23 #[.agg #[.int .i64 wx, .int .i64 wy], .slice so2 n2 cap2] W (RetS W m R c9) from fun W hb => by rw [HM.out, HC.out, HRR.out]; exact spec_KeepClearTable wx wy so2 n2 cap2 X Y H K L U W (RowAt.later hb HR.out) (by omega))
  have KL := hide (fun (s1 s2 : Option Addr) (c1 c2 : Nat) (W : World) (r1 : RdT W s1 m R) (r2 : RdT W s2 m R) => laws_likeRows s1 s2 m c1 c2 R W r1 r2 (by omega) (fun j hj => by have := HL17.out j; omega))
  go_wp2_with fail; (with_reducible refine (K1.out _ (by repeat (first | with_reducible exact Below.refl _ _ | with_reducible assumption | with_reducible refine Below.drew ?_ | with_reducible refine below_drewN ?_ _ | with_reducible refine Below.setCell ?_ (by first | exact Nat.le_refl _ | (simp; done) | (simp; omega) | (dsimp only; omega)) _ | with_reducible refine Below.alloc ?_ (by first | exact Nat.le_refl _ | (simp; done) | (simp; omega) | (simp at *; omega)) _ | with_reducible refine bstep ?_ (by assumption)))).mono ?_); rintro e w2 ⟨so5, cp5, rfl, hown2, hb2⟩; obtain ⟨hc2, hf2⟩ := bcell hb2; have hz2 := hb2.size
  have z20 : w1.heap.size < w2.heap.size := by simp at hz2; omega
  have HA := hide (OwT.read hown2)
  clear hown2
  go_wp2_with fail; (with_reducible refine (K2.out _ (by repeat (first | with_reducible exact Below.refl _ _ | with_reducible assumption | with_reducible refine Below.drew ?_ | with_reducible refine below_drewN ?_ _ | with_reducible refine Below.setCell ?_ (by first | exact Nat.le_refl _ | (simp; done) | (simp; omega) | (dsimp only; omega)) _ | with_reducible refine Below.alloc ?_ (by first | exact Nat.le_refl _ | (simp; done) | (simp; omega) | (simp at *; omega)) _ | with_reducible refine bstep ?_ (by assumption)))).mono ?_); rintro e w3 ⟨so6, cp6, rfl, hrd3, hb3⟩; obtain ⟨hc3, hf3⟩ := bcell hb3; have hz3 := hb3.size
  have z30 : w1.heap.size < w3.heap.size := by omega
  have HA3 := hide (RdT.later HA.out hb3)
  have HS3 := hide hrd3
  have c0 : w3.cell? ⟨w1.heap.size, 0, none⟩ = some (.int .i64 wx) := by go_simp
  have c1 : w3.cell? ⟨w1.heap.size, 1, none⟩ = some (.int .i64 wy) := by go_simp
  have HB3 := hide (show Below w1.heap.size w1 w3 from (by repeat (first | with_reducible exact Below.refl _ _ | with_reducible assumption | with_reducible refine Below.drew ?_ | with_reducible refine below_drewN ?_ _ | with_reducible refine Below.setCell ?_ (by first | exact Nat.le_refl _ | (simp; done) | (simp; omega) | (dsimp only; omega)) _ | with_reducible refine Below.alloc ?_ (by first | exact Nat.le_refl _ | (simp; done) | (simp; omega) | (simp at *; omega)) _ | with_reducible refine bstep ?_ (by assumption))))
  clear hrd3 hc2 hf2 hb2 hc3 hf3 hb3 K1 K2 HA
  go_wp2_with fail; (with_reducible refine (KL.out _ _ _ _ _ HA3.out HS3.out).mono ?_); rintro e w4 ⟨rfl, hb4⟩
  have z40 : w1.heap.size < w4.heap.size := by have := hb4.size; omega
  have d0 := cell_later hb4 c0
  have d1 := cell_later hb4 c1
  have HB4 := hide (bstep HB3.out hb4)
  have HS4 := hide (RdT.later HS3.out hb4)
  clear c0 c1 hb4 HA3 HS3 KL HB3
  by_cases hc0 : ¬ c9 = 0
  · have hcb : (c9 == 0) = false := beq_eq_false_iff_ne.2 hc0
    go_wp2
    go_ret
    exact ⟨rfl, HB1.out.trans (HB4.out.mono hz1)⟩
  obtain rfl : c9 = 0 := Decidable.not_not.1 hc0
  have hv : decide (n2 ≤ 16) = true ∧ isWd wx wy = true ∧ husOk X Y H K L n2 = true := by
    have := HC.out
    revert this; unfold kcC; cases decide (n2 ≤ 16) <;> cases isWd wx wy <;> cases husOk X Y H K L n2 <;> simp [sel]
  obtain ⟨v0, v1, v2⟩ := hv
  have hmn : m = n2 := by rw [HM.out]; unfold kcN; rw [v0, v1, v2]; rfl
  subst hmn
  have HK := hide (show ∀ i k, k < i → i < m → ∃ r1 r2 : Int, decide ((k : Int) ∈ R i) = (r1 == 1) ∧ decide ((i : Int) ∈ R k) = (r1 == 2) ∧
      (∀ W, Calls Try.prog 19 #[.agg #[.int .i64 wx, .int .i64 wy], .agg #[.int .i64 (X i), .int .i64 (Y i), .int .i64 (H i), .int .i64 (K i), .int .i64 (L i), .bool (U i)], .agg #[.int .i64 (X k), .int .i64 (Y k), .int .i64 (H k), .int .i64 (K k), .int .i64 (L k), .bool (U k)]] W fun e w' => e = .returned (.tuple #[.agg #[.int .i64 r1, .int .i64 r2], .int .i64 0]) ∧ Below W.heap.size W w') from fun i k hk hi => by
    obtain ⟨r1, r2, e, h1, h2⟩ := kc_pair wx wy X Y H K L U hk hi
    refine ⟨r1, r2, by rw [HRR.out]; exact h1, by rw [HRR.out]; exact h2, fun W => (impl_RuleOn wx wy _ _ _ _ _ _ _ _ _ _ _ _ W).mono fun e9 w' k9 => ⟨?_, k9.2⟩⟩
    rw [k9.1, e, v1, husOk_t v2 i hi, husOk_t v2 k (by omega)]
    rfl)
  obtain ⟨A4, C4, hrow4, hrows4⟩ := HS4.out
  have HR4 := hide hrow4
  have HQ4 := hide hrows4
  clear hrow4 hrows4 HS4 v0 v1 v2 HC HM hc0
  go_wp2
  go_loopw [9] (fun i wr => ∃ j : Nat, j ≤ m ∧ i = .int .i64 (j : Int) ∧ wr.cell? ⟨w1.heap.size, 0, none⟩ = some (.int .i64 wx) ∧ wr.cell? ⟨w1.heap.size, 1, none⟩ = some (.int .i64 wy) ∧ Below w4.heap.size w4 wr) (fun i _ => m - (intOf i).toNat)
  case atStart => exact ⟨0, Nat.zero_le _, rfl, d0, d1, Below.refl _ _⟩
  case round =>
    clear d0 d1
    obtain ⟨j, hj, rfl, d0, d1, hbl⟩ := hrel
    obtain ⟨wo, rfl⟩ : ∃ x : World, x = wr := ⟨_, rfl⟩
    have hi0 : (0 : Int) ≤ (j : Int) := by omega
    by_cases hlt : j < m
    · have hi1 : (j : Int) < (m : Int) := by omega
      have Hbl := hide hbl
      go_wp2
      go_loopw [10] (fun i wr => ∃ k : Nat, k ≤ j ∧ i = .int .i64 (k : Int) ∧ wr.cell? ⟨w1.heap.size, 0, none⟩ = some (.int .i64 wx) ∧ wr.cell? ⟨w1.heap.size, 1, none⟩ = some (.int .i64 wy) ∧ Below w4.heap.size w4 wr) (fun i _ => j - (intOf i).toNat)
      case atStart => exact ⟨0, Nat.zero_le _, rfl, d0, d1, Hbl.out⟩
      case round =>
        clear d0 d1 hbl Hbl
        obtain ⟨k, hk, rfl, d0, d1, hbl⟩ := hrel
        have zr := hbl.size
        have zr0 : w1.heap.size < wr.heap.size := by omega
        have hk0 : (0 : Int) ≤ (k : Int) := by omega
        by_cases hlt2 : k < j
        · have hk1 : (k : Int) < (j : Int) := by omega
          have hk2 : (k : Int) < (m : Int) := by omega
          obtain ⟨r1, r2, q1, q2, KR⟩ := HK.out j k hlt2 hlt
          have HBr := hide (bstep HB4.out hbl)
          have Hbl := hide hbl
          have hb5z := hbl.size
          obtain ⟨b, o, rfl, hbs, e0, e1, e2, e3, e4, e5⟩ := (RowAt.later HBr.out HR.out).at6 j hlt
          obtain ⟨f0, f1, f2, f3, f4, f5⟩ := (RowAt.later HBr.out HR.out).on6 k (by omega)
          obtain ⟨b5, o5, rfl, hb5, s0⟩ := (RowAt.later hbl HR4.out).at1 j hlt
          obtain ⟨b6, o6, e6, _, s1⟩ := (RowAt.later hbl HR4.out).at1 k (by omega)
          simp only [Option.some.injEq, Addr.mk.injEq, and_true] at e6
          obtain ⟨rfl, rfl⟩ := e6
          simp only [vS] at s0 s1
          obtain ⟨p1, hp1⟩ : ∃ p, p = (r1 == 1) := ⟨_, rfl⟩
          obtain ⟨p2, hp2⟩ : ∃ p, p = (r1 == 2) := ⟨_, rfl⟩
          rw [← hp1] at q1
          rw [← hp2] at q2
          have KH1 := hide (show ∀ W, Below w4.heap.size w4 W → Calls Try.prog 25 #[.slice (A4 j) (R j).length (C4 j), .int .i64 (k : Int)] W fun e w' => e = .returned (.bool p1) ∧ Below W.heap.size W w' from fun W hb => by rw [← q1]; exact laws_hasInt (A4 j) (C4 j) (R j) (k : Int) W (RowAt.later hb (HQ4.out j hlt)) (by have := HL17.out j; omega))
          have KH2 := hide (show ∀ W, Below w4.heap.size w4 W → Calls Try.prog 25 #[.slice (A4 k) (R k).length (C4 k), .int .i64 (j : Int)] W fun e w' => e = .returned (.bool p2) ∧ Below W.heap.size W w' from fun W hb => by rw [← q2]; exact laws_hasInt (A4 k) (C4 k) (R k) (j : Int) W (RowAt.later hb (HQ4.out k (by omega))) (by have := HL17.out k; omega))
          have hp1' : (r1 == 1) = p1 := hp1.symm
          have hp2' : (r1 == 2) = p2 := hp2.symm
          have HKR := hide KR
          clear KR q1 q2 hbl hp1 hp2
          go_upto_region 16 with fail
          go_cut [11, 12] (fun s11 s12 W => ∃ g : Nat, s11 = .pointer (some ⟨g, 0, none⟩) ∧ s12 = .int .i64 0 ∧ W.cell? ⟨g, 0, none⟩ = some (.int .i64 r1) ∧ Below wr.heap.size wr W)
          case first =>
            refine wp_region_held_drew (S := fun W => Below wr.heap.size wr W) (by kernel_rfl) (Below.drew (Below.refl _ _)) (fun hHeld => ?_)
            refine wpAnyH_take (i := 0) (oi := ⟨some 55, _, _, _, _, _⟩) (v := ?_) rfl (by kernel_rfl) (by kernel_rfl) (by kernel_rfl) (fun _ _ _ h => h) (Or.inl ⟨by kernel_rfl, ?_⟩) (by assumption) ?_; rotate_left; focus (intro W0 hSw; have hcS := (bcell hSw).1; go_simp; (try with_reducible rfl)); (try simp only [Act.put, List.setIfInBounds_toArray, List.set_cons_zero, List.set_cons_succ])
            refine wpAnyH_take (i := 1) (oi := ⟨some 56, _, _, _, _, _⟩) (v := ?_) rfl (by kernel_rfl) (by kernel_rfl) (by kernel_rfl) (fun _ _ _ h => h) (Or.inl ⟨by kernel_rfl, ?_⟩) (by assumption) ?_; rotate_left; focus (intro W0 hSw; go_simp; (try with_reducible rfl)); (try simp only [Act.put, List.setIfInBounds_toArray, List.set_cons_zero, List.set_cons_succ])
            refine wpAnyH_take (i := 2) (oi := ⟨some 57, _, _, _, _, _⟩) (v := ?_) rfl (by kernel_rfl) (by kernel_rfl) (by kernel_rfl) (fun _ _ _ h => h) (Or.inl ⟨by kernel_rfl, ?_⟩) (by assumption) ?_; rotate_left; focus (intro W0 hSw; go_simp; (try with_reducible rfl)); (try simp only [Act.put, List.setIfInBounds_toArray, List.set_cons_zero, List.set_cons_succ])
            refine wpAnyH_take (i := 3) (oi := ⟨some 58, _, _, _, _, _⟩) (v := ?_) rfl (by kernel_rfl) (by kernel_rfl) (by kernel_rfl) (fun _ _ _ h => h) (Or.inl ⟨by kernel_rfl, ?_⟩) (by assumption) ?_; rotate_left; focus (intro W0 hSw; go_simp; (try with_reducible rfl)); (try simp only [Act.put, List.setIfInBounds_toArray, List.set_cons_zero, List.set_cons_succ])
            refine wpAnyH_take (i := 4) (oi := ⟨some 59, _, _, _, _, _⟩) (v := ?_) rfl (by kernel_rfl) (by kernel_rfl) (by kernel_rfl) (fun _ _ _ h => h) (Or.inl ⟨by kernel_rfl, ?_⟩) (by assumption) ?_; rotate_left; focus (intro W0 hSw; have hcS := (bcell hSw).1; go_simp; (try with_reducible rfl)); (try simp only [Act.put, List.setIfInBounds_toArray, List.set_cons_zero, List.set_cons_succ])
            refine wpAnyH_take (i := 5) (oi := ⟨some 60, _, _, _, _, _⟩) (v := ?_) rfl (by kernel_rfl) (by kernel_rfl) (by kernel_rfl) (fun _ _ _ h => h) (Or.inl ⟨by kernel_rfl, ?_⟩) (by assumption) ?_; rotate_left; focus (intro W0 hSw; go_simp; (try with_reducible rfl)); (try simp only [Act.put, List.setIfInBounds_toArray, List.set_cons_zero, List.set_cons_succ])
            refine wpAnyH_take (i := 6) (oi := ⟨some 61, _, _, _, _, _⟩) (v := ?_) rfl (by kernel_rfl) (by kernel_rfl) (by kernel_rfl) (fun _ _ _ h => h) (Or.inl ⟨by kernel_rfl, ?_⟩) (by assumption) ?_; rotate_left; focus (intro W0 hSw; go_simp; (try with_reducible rfl)); (try simp only [Act.put, List.setIfInBounds_toArray, List.set_cons_zero, List.set_cons_succ])
            refine wpAnyH_take (i := 7) (oi := ⟨some 62, _, _, _, _, _⟩) (v := ?_) rfl (by kernel_rfl) (by kernel_rfl) (by kernel_rfl) (fun _ _ _ h => h) (Or.inl ⟨by kernel_rfl, ?_⟩) (by assumption) ?_; rotate_left; focus (intro W0 hSw; go_simp; (try with_reducible rfl)); (try simp only [Act.put, List.setIfInBounds_toArray, List.set_cons_zero, List.set_cons_succ])
            refine wpAnyH_take (i := 8) (oi := ⟨some 63, _, _, _, _, _⟩) (v := ?_) rfl (by kernel_rfl) (by kernel_rfl) (by kernel_rfl) (fun _ _ _ h => h) (Or.inl ⟨by kernel_rfl, ?_⟩) (by assumption) ?_; rotate_left; focus (intro W0 hSw; have hcS := (bcell hSw).1; go_simp; (try with_reducible rfl)); (try simp only [Act.put, List.setIfInBounds_toArray, List.set_cons_zero, List.set_cons_succ])
            refine wpAnyH_inv2 (fuel := 2) [9, 10, 11, 13] [12] [64, 54, 65, 66, 11] (fun uT L W => Below wr.heap.size wr W ∧ (L 9 → (uT 64) = (.tuple #[.agg #[.int .i64 r1, .int .i64 r2], .int .i64 0])) ∧ (L 10 → (uT 54) = (.tuple #[.agg #[.int .i64 r1, .int .i64 r2], .int .i64 0])) ∧ (L 11 → (uT 65) = (.agg #[.int .i64 r1, .int .i64 r2])) ∧ (L 12 → (uT 66) = (.int .i64 0)) ∧ (L 13 → FBoxB wr 2 (uT 11) W) ∧ True) (by decide) (by kernel_rfl) (by kernel_rfl) (by intro _ _ _ _ _ h; exact h) (fun uT L W hJ => hJ.1) (fun uT L hL => ⟨hHeld, fun k => absurd k (hL 9 (by decide)), fun k => absurd k (hL 10 (by decide)), fun k => absurd k (hL 11 (by decide)), fun k => absurd k (hL 12 (by decide)), fun k => absurd k (hL 13 (by decide)), trivial⟩) ?_ ?_ ?_
            · refine StepsH.cons (d := 64) (o := ⟨some 64, _, _, _, _, _⟩) rfl rfl (by kernel_rfl) ?_ ?_
              rotate_left
              refine StepsH.cons (d := 54) (o := ⟨some 54, _, _, _, _, _⟩) rfl rfl (by kernel_rfl) ?_ ?_
              rotate_left
              refine StepsH.cons (d := 65) (o := ⟨some 65, _, _, _, _, _⟩) rfl rfl (by kernel_rfl) ?_ ?_
              rotate_left
              refine StepsH.cons (d := 11) (o := ⟨some 11, _, _, _, _, _⟩) rfl rfl (by kernel_rfl) ?_ ?_
              rotate_left
              exact StepsH.nil
              · intro uT L W hn hd hJ
                obtain ⟨hk, f64, f54, f65, f66, f11, _⟩ := hJ
                intro K hK
                simp only [puts, Act.put, List.setIfInBounds_toArray, List.set_cons_zero, List.set_cons_succ]
                go_simp; (go_at_call 19; (with_reducible refine (HKR.out _).mono ?_); rintro e w9 ⟨rfl, hb⟩; have hzz := hb.size)
                all_goals (try go_wp2_with fail)
                all_goals
                  apply Shut.go4 (W := W) hK
                  · simp only [puts, Act.put, List.setIfInBounds_toArray, List.set_cons_zero, List.set_cons_succ]; rfl
                  · first | with_reducible assumption | with_reducible exact Below.refl _ _ | exact Below.alloc (Below.refl _ _) (Nat.le_refl _) _
                  · intro hb; exact ⟨bstep hk hb, fun _ => upd_same _ _ _, fun k => by rw [upd_ne uT _ (by decide)]; exact (f54 (k.resolve_left (by decide))), fun k => by rw [upd_ne uT _ (by decide)]; exact (f65 (k.resolve_left (by decide))), fun k => by rw [upd_ne uT _ (by decide)]; exact (f66 (k.resolve_left (by decide))), fun k => by rw [upd_ne uT _ (by decide)]; exact FBoxB.later hb (f11 (k.resolve_left (by decide))), trivial⟩
              · intro uT L W hn hd hJ
                obtain ⟨hk, f64, f54, f65, f66, f11, _⟩ := hJ
                obtain e64 := f64 (hd 9 (by kernel_rfl))
                intro K hK
                simp only [puts, Act.put, List.setIfInBounds_toArray, List.set_cons_zero, List.set_cons_succ, e64]
                go_simp
                all_goals (try go_wp2_with fail)
                all_goals
                  apply Shut.go4 (W := W) hK
                  · simp only [puts, Act.put, List.setIfInBounds_toArray, List.set_cons_zero, List.set_cons_succ, e64]; rfl
                  · first | with_reducible assumption | with_reducible exact Below.refl _ _ | exact Below.alloc (Below.refl _ _) (Nat.le_refl _) _
                  · intro hb; exact ⟨bstep hk hb, fun k => by rw [upd_ne uT _ (by decide)]; exact (f64 (k.resolve_left (by decide))), fun _ => upd_same _ _ _, fun k => by rw [upd_ne uT _ (by decide)]; exact (f65 (k.resolve_left (by decide))), fun k => by rw [upd_ne uT _ (by decide)]; exact (f66 (k.resolve_left (by decide))), fun k => by rw [upd_ne uT _ (by decide)]; exact FBoxB.later hb (f11 (k.resolve_left (by decide))), trivial⟩
              · intro uT L W hn hd hJ
                obtain ⟨hk, f64, f54, f65, f66, f11, _⟩ := hJ
                obtain e54 := f54 (hd 10 (by kernel_rfl))
                intro K hK
                simp only [puts, Act.put, List.setIfInBounds_toArray, List.set_cons_zero, List.set_cons_succ, e54]
                go_simp
                all_goals (try go_wp2_with fail)
                all_goals
                  apply Shut.go4 (W := W) hK
                  · simp only [puts, Act.put, List.setIfInBounds_toArray, List.set_cons_zero, List.set_cons_succ, e54]; rfl
                  · first | with_reducible assumption | with_reducible exact Below.refl _ _ | exact Below.alloc (Below.refl _ _) (Nat.le_refl _) _
                  · intro hb; exact ⟨bstep hk hb, fun k => by rw [upd_ne uT _ (by decide)]; exact (f64 (k.resolve_left (by decide))), fun k => by rw [upd_ne uT _ (by decide)]; exact (f54 (k.resolve_left (by decide))), fun _ => upd_same _ _ _, fun k => by rw [upd_ne uT _ (by decide)]; exact (f66 (k.resolve_left (by decide))), fun k => by rw [upd_ne uT _ (by decide)]; exact FBoxB.later hb (f11 (k.resolve_left (by decide))), trivial⟩
              · intro uT L W hn hd hJ
                obtain ⟨hk, f64, f54, f65, f66, f11, _⟩ := hJ
                intro K hK
                simp only [puts, Act.put, List.setIfInBounds_toArray, List.set_cons_zero, List.set_cons_succ]
                go_simp
                all_goals (try go_wp2_with fail)
                all_goals
                  apply Shut.go4 (W := W) hK
                  · simp only [puts, Act.put, List.setIfInBounds_toArray, List.set_cons_zero, List.set_cons_succ]; rfl
                  · first | with_reducible assumption | with_reducible exact Below.refl _ _ | exact Below.alloc (Below.refl _ _) (Nat.le_refl _) _
                  · intro hb; exact ⟨bstep hk hb, fun k => by rw [upd_ne uT _ (by decide)]; exact (f64 (k.resolve_left (by decide))), fun k => by rw [upd_ne uT _ (by decide)]; exact (f54 (k.resolve_left (by decide))), fun k => by rw [upd_ne uT _ (by decide)]; exact (f65 (k.resolve_left (by decide))), fun k => by rw [upd_ne uT _ (by decide)]; exact (f66 (k.resolve_left (by decide))), fun _ => by rw [upd_same]; exact FBoxB.new (Below.size hk) _ _ (by rfl), trivial⟩
            · refine PuresH.cons (d := 66) (o := ⟨some 66, _, _, _, _, _⟩) rfl rfl (by kernel_rfl) (by kernel_rfl) ?_ ?_
              rotate_left
              exact PuresH.nil
              · intro uT L W hn hd hJ
                obtain ⟨hk, f64, f54, f65, f66, f11, _⟩ := hJ
                obtain e54 := f54 (hd 10 (by kernel_rfl))
                simp only [puts, Act.put, List.setIfInBounds_toArray, List.set_cons_zero, List.set_cons_succ, e54]
                refine ⟨?_, Or.inl ⟨by kernel_rfl, ?_⟩, ?_⟩; rotate_left; focus (intro W0 hSw; go_simp; (try with_reducible rfl))
                exact ⟨hk, fun k => by rw [upd_ne uT _ (by decide)]; exact (f64 (k.resolve_left (by decide))), fun k => by rw [upd_ne uT _ (by decide)]; exact (f54 (k.resolve_left (by decide))), fun k => by rw [upd_ne uT _ (by decide)]; exact (f65 (k.resolve_left (by decide))), fun _ => upd_same _ _ _, fun k => by rw [upd_ne uT _ (by decide)]; exact (f11 (k.resolve_left (by decide))), trivial⟩
            · intro uT L W hJ hL
              obtain ⟨hk, f64, f54, f65, f66, f11, _⟩ := hJ
              obtain e64 := f64 (hL 9 (by kernel_rfl))
              obtain e54 := f54 (hL 10 (by kernel_rfl))
              obtain e65 := f65 (hL 11 (by kernel_rfl))
              obtain e66 := f66 (hL 12 (by kernel_rfl))
              obtain ⟨b11, e11, bb11, lb11, cb11⟩ := f11 (hL 13 (by kernel_rfl))
              clear hHeld; have hcW := (bcell hk).1; have hfW := (bcell hk).2; have lW := Below.size hk; have hHeld := hk
              clear f64
              clear f54
              clear f65
              clear f66
              clear f11
              simp only [puts, Act.put, List.setIfInBounds_toArray, List.set_cons_zero, List.set_cons_succ, setAll, Array.replicate, e64, e54, e65, e66, e11]
              obtain ⟨⟨y11_0, cy11_0⟩, fy11_0⟩ := cb11 0 (by decide)
              obtain ⟨⟨y11_1, cy11_1⟩, fy11_1⟩ := cb11 1 (by decide)
              refine wpAnyH_ready (rs := [14]) (by kernel_rfl) (by simp) ?_; refine (AllReadyH.cons (o := ⟨none, _, _, _, _, _⟩) rfl (fun K hK => ?_) AllReadyH.nil)
              go_simp
              all_goals (try go_wp2_with fail)
              refine hK.out _ _ ?_ (fun hH2 => ?_)
              · exact (by repeat (first | with_reducible exact Below.refl _ _ | with_reducible assumption | with_reducible refine Below.drew ?_ | with_reducible refine below_drewN ?_ _ | with_reducible refine Below.setCell ?_ (by first | exact Nat.le_refl _ | (simp; done) | (simp; omega) | (dsimp only; omega)) _ | with_reducible refine Below.alloc ?_ (by first | exact Nat.le_refl _ | (simp; done) | (simp; omega) | (simp at *; omega)) _ | with_reducible refine bstep ?_ (by assumption)))
              clear hK K hHeld; (have hHeld := hH2); clear hH2; (try simp only [Act.put])
              refine wpAnyH_ready (rs := [15]) (by kernel_rfl) (by simp) ?_; refine (AllReadyH.cons (o := ⟨some 12, _, _, _, _, _⟩) rfl (fun K hK => ?_) AllReadyH.nil)
              go_simp
              all_goals (try go_wp2_with fail)
              refine hK.out _ _ ?_ (fun hH2 => ?_)
              · exact (by repeat (first | with_reducible exact Below.refl _ _ | with_reducible assumption | with_reducible refine Below.drew ?_ | with_reducible refine below_drewN ?_ _ | with_reducible refine Below.setCell ?_ (by first | exact Nat.le_refl _ | (simp; done) | (simp; omega) | (dsimp only; omega)) _ | with_reducible refine Below.alloc ?_ (by first | exact Nat.le_refl _ | (simp; done) | (simp; omega) | (simp at *; omega)) _ | with_reducible refine bstep ?_ (by assumption)))
              clear hK K hHeld; (have hHeld := hH2); clear hH2; (try simp only [Act.put])
              refine wpAnyH_done (by kernel_rfl) ?_ _; (try simp only [Act.put, List.setIfInBounds_toArray, List.set_cons_zero, List.set_cons_succ])
              go_wp2_with fail
              go_meet
              exact ⟨_, rfl, rfl, (by (repeat with_reducible refine cell_off ?_ (by first | (right; dsimp only; omega) | (left; dsimp only; omega) | (left; simp; omega))); with_reducible refine cell_same_ex ?_; (repeat with_reducible refine cell_off_ex ?_ (by first | (right; dsimp only; omega) | (left; dsimp only; omega) | (left; simp; omega))); exact ⟨_, by assumption⟩), hHeld⟩
          case rest =>
            obtain ⟨g, rfl, rfl, y0, hg9⟩ := hcut
            have kg := World.block_lt_of_cell? _ _ y0
            simp only at kg
            have t0 := cell_later hg9 s0
            have t1 := cell_later hg9 s1
            have Hbc := hide (bstep Hbl.out hg9)
            have zc0 : w1.heap.size < wc.heap.size := by have := hg9.size; omega
            have zc5 : b5 < wc.heap.size := by have := hg9.size; omega
            have m0 := cell_later hg9 d0
            have m1 := cell_later hg9 d1
            clear d0 d1 e0 e1 e2 e3 e4 e5 f0 f1 f2 f3 f4 f5 s0 s1 HKR hg9
            go_upto_region 17 with fail
            refine wp_region_held_drew (S := fun W => Below wc.heap.size wc W) (by kernel_rfl) (Below.drew (Below.refl _ _)) (fun hHeld => ?_)
            refine wpAnyH_take (i := 0) (oi := ⟨some 67, _, _, _, _, _⟩) (v := ?_) rfl (by kernel_rfl) (by kernel_rfl) (by kernel_rfl) (fun _ _ _ h => h) (Or.inl ⟨by kernel_rfl, ?_⟩) (by assumption) ?_; rotate_left; focus (intro W0 hSw; go_simp; (try with_reducible rfl)); (try simp only [Act.put, List.setIfInBounds_toArray, List.set_cons_zero, List.set_cons_succ])
            refine wpAnyH_take (i := 1) (oi := ⟨some 68, _, _, _, _, _⟩) (v := ?_) rfl (by kernel_rfl) (by kernel_rfl) (by kernel_rfl) (fun _ _ _ h => h) (Or.inl ⟨by kernel_rfl, ?_⟩) (by assumption) ?_; rotate_left; focus (intro W0 hSw; go_simp; (try with_reducible rfl)); (try simp only [Act.put, List.setIfInBounds_toArray, List.set_cons_zero, List.set_cons_succ])
            refine wpAnyH_take (i := 2) (oi := ⟨some 69, _, _, _, _, _⟩) (v := ?_) rfl (by kernel_rfl) (by kernel_rfl) (by kernel_rfl) (fun _ _ _ h => h) (Or.inl ⟨by kernel_rfl, ?_⟩) (by assumption) ?_; rotate_left; focus (intro W0 hSw; go_simp; (try with_reducible rfl)); (try simp only [Act.put, List.setIfInBounds_toArray, List.set_cons_zero, List.set_cons_succ])
            refine wpAnyH_take (i := 3) (oi := ⟨some 70, _, _, _, _, _⟩) (v := ?_) rfl (by kernel_rfl) (by kernel_rfl) (by kernel_rfl) (fun _ _ _ h => h) (Or.inl ⟨by kernel_rfl, ?_⟩) (by assumption) ?_; rotate_left; focus (intro W0 hSw; go_simp; (try with_reducible rfl)); (try simp only [Act.put, List.setIfInBounds_toArray, List.set_cons_zero, List.set_cons_succ])
            refine wpAnyH_take (i := 4) (oi := ⟨some 71, _, _, _, _, _⟩) (v := ?_) rfl (by kernel_rfl) (by kernel_rfl) (by kernel_rfl) (fun _ _ _ h => h) (Or.inl ⟨by kernel_rfl, ?_⟩) (by assumption) ?_; rotate_left; focus (intro W0 hSw; go_simp; (try with_reducible rfl)); (try simp only [Act.put, List.setIfInBounds_toArray, List.set_cons_zero, List.set_cons_succ])
            refine wpAnyH_take (i := 5) (oi := ⟨some 72, _, _, _, _, _⟩) (v := ?_) rfl (by kernel_rfl) (by kernel_rfl) (by kernel_rfl) (fun _ _ _ h => h) (Or.inl ⟨by kernel_rfl, ?_⟩) (by assumption) ?_; rotate_left; focus (intro W0 hSw; go_simp; (try with_reducible rfl)); (try simp only [Act.put, List.setIfInBounds_toArray, List.set_cons_zero, List.set_cons_succ])
            refine wpAnyH_take (i := 6) (oi := ⟨some 73, _, _, _, _, _⟩) (v := ?_) rfl (by kernel_rfl) (by kernel_rfl) (by kernel_rfl) (fun _ _ _ h => h) (Or.inl ⟨by kernel_rfl, ?_⟩) (by assumption) ?_; rotate_left; focus (intro W0 hSw; have hcS := (bcell hSw).1; go_simp; (try with_reducible rfl)); (try simp only [Act.put, List.setIfInBounds_toArray, List.set_cons_zero, List.set_cons_succ])
            refine wpAnyH_take (i := 7) (oi := ⟨some 74, _, _, _, _, _⟩) (v := ?_) rfl (by kernel_rfl) (by kernel_rfl) (by kernel_rfl) (fun _ _ _ h => h) (Or.inl ⟨by kernel_rfl, ?_⟩) (by assumption) ?_; rotate_left; focus (intro W0 hSw; go_simp; (try with_reducible rfl)); (try simp only [Act.put, List.setIfInBounds_toArray, List.set_cons_zero, List.set_cons_succ])
            refine wpAnyH_take (i := 9) (oi := ⟨some 76, _, _, _, _, _⟩) (v := ?_) rfl (by kernel_rfl) (by kernel_rfl) (by kernel_rfl) (fun _ _ _ h => h) (Or.inl ⟨by kernel_rfl, ?_⟩) (by assumption) ?_; rotate_left; focus (intro W0 hSw; go_simp; (try with_reducible rfl)); (try simp only [Act.put, List.setIfInBounds_toArray, List.set_cons_zero, List.set_cons_succ])
            refine wpAnyH_take (i := 10) (oi := ⟨some 77, _, _, _, _, _⟩) (v := ?_) rfl (by kernel_rfl) (by kernel_rfl) (by kernel_rfl) (fun _ _ _ h => h) (Or.inl ⟨by kernel_rfl, ?_⟩) (by assumption) ?_; rotate_left; focus (intro W0 hSw; have hcS := (bcell hSw).1; go_simp; (try with_reducible rfl)); (try simp only [Act.put, List.setIfInBounds_toArray, List.set_cons_zero, List.set_cons_succ])
            refine wpAnyH_take (i := 11) (oi := ⟨some 78, _, _, _, _, _⟩) (v := ?_) rfl (by kernel_rfl) (by kernel_rfl) (by kernel_rfl) (fun _ _ _ h => h) (Or.inl ⟨by kernel_rfl, ?_⟩) (by assumption) ?_; rotate_left; focus (intro W0 hSw; go_simp; (try with_reducible rfl)); (try simp only [Act.put, List.setIfInBounds_toArray, List.set_cons_zero, List.set_cons_succ])
            refine wpAnyH_ready (rs := [8]) (by kernel_rfl) (by simp) ?_; refine (AllReadyH.cons (o := ⟨some 75, _, _, _, _, _⟩) rfl (fun K hK => ?_) AllReadyH.nil)
            go_simp; (first | (go_at_call 25; (with_reducible refine (KH1.out _ (bstep Hbc.out (by repeat (first | with_reducible exact Below.refl _ _ | with_reducible assumption | with_reducible refine Below.drew ?_ | with_reducible refine below_drewN ?_ _ | with_reducible refine Below.setCell ?_ (by first | exact Nat.le_refl _ | (simp; done) | (simp; omega) | (dsimp only; omega)) _ | with_reducible refine Below.alloc ?_ (by first | exact Nat.le_refl _ | (simp; done) | (simp; omega) | (simp at *; omega)) _ | with_reducible refine bstep ?_ (by assumption))))).mono ?_); rintro e w9 ⟨rfl, hb⟩; have hzz := hb.size) | (go_at_call 25; (with_reducible refine (KH2.out _ (bstep Hbc.out (by repeat (first | with_reducible exact Below.refl _ _ | with_reducible assumption | with_reducible refine Below.drew ?_ | with_reducible refine below_drewN ?_ _ | with_reducible refine Below.setCell ?_ (by first | exact Nat.le_refl _ | (simp; done) | (simp; omega) | (dsimp only; omega)) _ | with_reducible refine Below.alloc ?_ (by first | exact Nat.le_refl _ | (simp; done) | (simp; omega) | (simp at *; omega)) _ | with_reducible refine bstep ?_ (by assumption))))).mono ?_); rintro e w9 ⟨rfl, hb⟩; have hzz := hb.size))
            all_goals (try go_wp2_with fail)
            refine hK.out _ _ ?_ (fun hH2 => ?_)
            · first | exact bstep hHeld hb | exact hHeld
            clear hK K hHeld; (have hHeld := hH2); clear hH2; (try simp only [Act.put, List.setIfInBounds_toArray, List.set_cons_zero, List.set_cons_succ])
            refine wpAnyH_take (i := 12) (oi := ⟨some 79, _, _, _, _, _⟩) (v := ?_) rfl (by kernel_rfl) (by kernel_rfl) (by kernel_rfl) (fun _ _ _ h => h) (Or.inl ⟨by kernel_rfl, ?_⟩) (by assumption) ?_; rotate_left; focus (intro W0 hSw; go_simp; (try with_reducible rfl)); (try simp only [Act.put, List.setIfInBounds_toArray, List.set_cons_zero, List.set_cons_succ])
            refine wpAnyH_take (i := 13) (oi := ⟨some 80, _, _, _, _, _⟩) (v := ?_) rfl (by kernel_rfl) (by kernel_rfl) (by kernel_rfl) (fun _ _ _ h => h) (Or.inl ⟨by kernel_rfl, ?_⟩) (by assumption) ?_; rotate_left; focus (intro W0 hSw; go_simp; (try with_reducible rfl)); (try simp only [Act.put, List.setIfInBounds_toArray, List.set_cons_zero, List.set_cons_succ])
            refine wpAnyH_take (i := 14) (oi := ⟨some 81, _, _, _, _, _⟩) (v := ?_) rfl (by kernel_rfl) (by kernel_rfl) (by kernel_rfl) (fun _ _ _ h => h) (Or.inl ⟨by kernel_rfl, ?_⟩) (by assumption) ?_; rotate_left; focus (intro W0 hSw; go_simp; (try with_reducible rfl)); (try simp only [Act.put, List.setIfInBounds_toArray, List.set_cons_zero, List.set_cons_succ])
            refine wpAnyH_take (i := 15) (oi := ⟨some 82, _, _, _, _, _⟩) (v := ?_) rfl (by kernel_rfl) (by kernel_rfl) (by kernel_rfl) (fun _ _ _ h => h) (Or.inl ⟨by kernel_rfl, ?_⟩) (by assumption) ?_; rotate_left; focus (intro W0 hSw; go_simp; (try with_reducible rfl)); (try simp only [Act.put, List.setIfInBounds_toArray, List.set_cons_zero, List.set_cons_succ])
            refine wpAnyH_take (i := 16) (oi := ⟨some 83, _, _, _, _, _⟩) (v := ?_) rfl (by kernel_rfl) (by kernel_rfl) (by kernel_rfl) (fun _ _ _ h => h) (Or.inl ⟨by kernel_rfl, ?_⟩) (by assumption) ?_; rotate_left; focus (intro W0 hSw; go_simp; (try with_reducible rfl)); (try simp only [Act.put, List.setIfInBounds_toArray, List.set_cons_zero, List.set_cons_succ])
            refine wpAnyH_take (i := 17) (oi := ⟨some 84, _, _, _, _, _⟩) (v := ?_) rfl (by kernel_rfl) (by kernel_rfl) (by kernel_rfl) (fun _ _ _ h => h) (Or.inl ⟨by kernel_rfl, ?_⟩) (by assumption) ?_; rotate_left; focus (intro W0 hSw; go_simp; (try with_reducible rfl)); (try simp only [Act.put, List.setIfInBounds_toArray, List.set_cons_zero, List.set_cons_succ])
            refine wpAnyH_take (i := 18) (oi := ⟨some 85, _, _, _, _, _⟩) (v := ?_) rfl (by kernel_rfl) (by kernel_rfl) (by kernel_rfl) (fun _ _ _ h => h) (Or.inl ⟨by kernel_rfl, ?_⟩) (by assumption) ?_; rotate_left; focus (intro W0 hSw; have hcS := (bcell hSw).1; go_simp; (try with_reducible rfl)); (try simp only [Act.put, List.setIfInBounds_toArray, List.set_cons_zero, List.set_cons_succ])
            refine wpAnyH_take (i := 19) (oi := ⟨some 86, _, _, _, _, _⟩) (v := ?_) rfl (by kernel_rfl) (by kernel_rfl) (by kernel_rfl) (fun _ _ _ h => h) (Or.inl ⟨by kernel_rfl, ?_⟩) (by assumption) ?_; rotate_left; focus (intro W0 hSw; go_simp; (try with_reducible rfl)); (try simp only [Act.put, List.setIfInBounds_toArray, List.set_cons_zero, List.set_cons_succ])
            refine wpAnyH_take (i := 21) (oi := ⟨some 88, _, _, _, _, _⟩) (v := ?_) rfl (by kernel_rfl) (by kernel_rfl) (by kernel_rfl) (fun _ _ _ h => h) (Or.inl ⟨by kernel_rfl, ?_⟩) (by assumption) ?_; rotate_left; focus (intro W0 hSw; go_simp; (try with_reducible rfl)); (try simp only [Act.put, List.setIfInBounds_toArray, List.set_cons_zero, List.set_cons_succ])
            refine wpAnyH_take (i := 22) (oi := ⟨some 89, _, _, _, _, _⟩) (v := ?_) rfl (by kernel_rfl) (by kernel_rfl) (by kernel_rfl) (fun _ _ _ h => h) (Or.inl ⟨by kernel_rfl, ?_⟩) (by assumption) ?_; rotate_left; focus (intro W0 hSw; have hcS := (bcell hSw).1; go_simp; (try with_reducible rfl)); (try simp only [Act.put, List.setIfInBounds_toArray, List.set_cons_zero, List.set_cons_succ])
            refine wpAnyH_take (i := 23) (oi := ⟨some 90, _, _, _, _, _⟩) (v := ?_) rfl (by kernel_rfl) (by kernel_rfl) (by kernel_rfl) (fun _ _ _ h => h) (Or.inl ⟨by kernel_rfl, ?_⟩) (by assumption) ?_; rotate_left; focus (intro W0 hSw; go_simp; (try with_reducible rfl)); (try simp only [Act.put, List.setIfInBounds_toArray, List.set_cons_zero, List.set_cons_succ])
            refine wpAnyH_ready (rs := [20]) (by kernel_rfl) (by simp) ?_; refine (AllReadyH.cons (o := ⟨some 87, _, _, _, _, _⟩) rfl (fun K hK => ?_) AllReadyH.nil)
            go_simp; (first | (go_at_call 25; (with_reducible refine (KH1.out _ (bstep Hbc.out (by repeat (first | with_reducible exact Below.refl _ _ | with_reducible assumption | with_reducible refine Below.drew ?_ | with_reducible refine below_drewN ?_ _ | with_reducible refine Below.setCell ?_ (by first | exact Nat.le_refl _ | (simp; done) | (simp; omega) | (dsimp only; omega)) _ | with_reducible refine Below.alloc ?_ (by first | exact Nat.le_refl _ | (simp; done) | (simp; omega) | (simp at *; omega)) _ | with_reducible refine bstep ?_ (by assumption))))).mono ?_); rintro e w9 ⟨rfl, hb⟩; have hzz := hb.size) | (go_at_call 25; (with_reducible refine (KH2.out _ (bstep Hbc.out (by repeat (first | with_reducible exact Below.refl _ _ | with_reducible assumption | with_reducible refine Below.drew ?_ | with_reducible refine below_drewN ?_ _ | with_reducible refine Below.setCell ?_ (by first | exact Nat.le_refl _ | (simp; done) | (simp; omega) | (dsimp only; omega)) _ | with_reducible refine Below.alloc ?_ (by first | exact Nat.le_refl _ | (simp; done) | (simp; omega) | (simp at *; omega)) _ | with_reducible refine bstep ?_ (by assumption))))).mono ?_); rintro e w9 ⟨rfl, hb⟩; have hzz := hb.size))
            all_goals (try go_wp2_with fail)
            refine hK.out _ _ ?_ (fun hH2 => ?_)
            · first | exact bstep hHeld hb | exact hHeld
            clear hK K hHeld; (have hHeld := hH2); clear hH2; (try simp only [Act.put, List.setIfInBounds_toArray, List.set_cons_zero, List.set_cons_succ])
            refine wpAnyH_take (i := 24) (oi := ⟨some 91, _, _, _, _, _⟩) (v := ?_) rfl (by kernel_rfl) (by kernel_rfl) (by kernel_rfl) (fun _ _ _ h => h) (Or.inl ⟨by kernel_rfl, ?_⟩) (by assumption) ?_; rotate_left; focus (intro W0 hSw; go_simp; (try with_reducible rfl)); (try simp only [Act.put, List.setIfInBounds_toArray, List.set_cons_zero, List.set_cons_succ])
            refine wpAnyH_take (i := 25) (oi := ⟨some 92, _, _, _, _, _⟩) (v := ?_) rfl (by kernel_rfl) (by kernel_rfl) (by kernel_rfl) (fun _ _ _ h => h) (Or.inl ⟨by kernel_rfl, ?_⟩) (by assumption) ?_; rotate_left; focus (intro W0 hSw; go_simp; (try with_reducible rfl)); (try simp only [Act.put, List.setIfInBounds_toArray, List.set_cons_zero, List.set_cons_succ])
            refine wpAnyH_done (by kernel_rfl) ?_ _; (try simp only [Act.put, List.setIfInBounds_toArray, List.set_cons_zero, List.set_cons_succ])
            go_wp2
            go_roundw
            case rel => exact ⟨k + 1, by omega, by go_num, cell_later hHeld m0, cell_later hHeld m1, bstep Hbc.out hHeld⟩
            case measure => simp [intOf]; omega
        · obtain rfl : k = j := by omega
          go_wp2
          go_roundw
          case rel => exact ⟨k + 1, by omega, by go_num, d0, d1, hbl⟩
          case measure => simp [intOf]; omega
    · obtain rfl : j = m := by omega
      go_wp2
      go_ret
      exact ⟨rfl, HB1.out.trans ((bstep HB4.out hbl).mono hz1)⟩

set_option maxRecDepth 100000 in
theorem FnKeepClear_lifted (os : Os) (started : os.Started) (H : Type) (enc : TypeId × Value → H) :
    ReturnsInHanded {} Try.checked os 6 .any (Rows.fnKeepClearSpec.pre6 enc Try.prog Try.f6 Rows.fnKeepClearRow.domain false) (Rows.fnKeepClearSpec.post enc Try.prog Try.f6 false true false false) := by
  refine returnsInHanded_of_change (C := Try.checked) Try.own started (by as_aux_lemma => kernel_rfl) Try.func6
    (ChangeSpec.witness6 (enc := enc) (C := Try.checked) false ⟨#[], #[.slice none 0 0], []⟩ 8 (by as_aux_lemma => kernel_rfl) (by as_aux_lemma => kernel_rfl) (by as_aux_lemma => kernel_rfl) (by as_aux_lemma => kernel_rfl)) ?_
  intro W base args ds gs before hval0 hW _ _
  have hval : ∀ (j : Nat) t v, Try.f6.params[j]? = some t → args[j]? = some v → Value.okWide Try.prog W .any base t v := hval0
  have hW' := hW
  obtain ⟨p, q, hA0, hV, rfl, _, _⟩ := hW
  have hA : DataW.TrodAll enc Try.prog W 0 (fun _ => true) true Try.f6.params.toList args.toList ds p := hA0
  rw [Try.params6] at hA hval
  obtain ⟨v0, vs0, d0, ds0, p0, q0, hargs, rfl, rfl, h0, r0⟩ := trodAll_cons hA
  obtain ⟨rfl, rfl, rfl⟩ := trodAll_nil r0
  obtain rfl : args = #[v0] := by cases args; simp_all
  obtain ⟨so0, n0, cp0, B0, rfl, hl0, hr0, hB0⟩ := op_bytes (hval 0 22 v0 rfl rfl) h0
  obtain ⟨rfl, rfl⟩ := trodVars_none hV
  refine (laws_FnKeepClear so0 n0 cp0 B0 W hl0 hr0 hB0).mono fun e W1 ⟨he, hb⟩ => ⟨_, he, ?_⟩
  exact law_post Try.laidOut (by as_aux_lemma => kernel_rfl) Try.underlying4 rfl rfl hW' rfl rfl rfl hb
set_option maxHeartbeats 8000000 in
theorem FnKeepClear_closed : joinedFacts Try.prog 6 Try.f6 Rows.fnKeepClearSpec Rows.fnKeepClearRow = true := by
  simp only [joinedFacts, Bool.and_eq_true, Try.laidOut, Try.mapsRowed, Try.stopsNone, Try.stopKnobsNone, Try.plainKeysIs, Try.stopsHeardIs, Try.mayEnterIs, Try.liftsFinalIs, Try.makeIs, and_true, true_and]
  repeat' (with_reducible refine And.intro ?_ ?_)
  all_goals (as_aux_lemma => kernel_rfl)
set_option maxHeartbeats 8000000 in
/-- FnKeepClear: whatever the input, the law returns true, and the input reads as it did. -/
theorem FnKeepClear_holds : Rows.FnKeepClearSaid :=
  OpenClaim.holds_of_wide 6 Try.f6 rfl rfl rfl rfl rfl rfl rfl ⟨rfl, rfl, rfl, rfl, rfl⟩ rfl rfl rfl rfl rfl (by as_aux_lemma => kernel_rfl) Try.func6
    FnKeepClear_closed
    (of_decide_eq_true (by as_aux_lemma => kernel_rfl)) (by unfold Func.isWrapper; rw [if_neg (of_decide_eq_false (by as_aux_lemma => kernel_rfl))]; exact ⟨rfl, rfl⟩)
    (fun os started H enc _ => FnKeepClear_lifted os started H enc)
#print axioms FnKeepClear_holds
end Go.Proofs.Ytnmnibpcklcmgaa
