/- FnManoeuvres holds: at each manoeuvre the tack changes, and between two manoeuvres it does not, unless the boat is on no tack; for every code. No condition. -/
import Derived.Test.YtnmnibpcklcmgaaDf
import Derived.Test.YtnmnibpcklcmgaaTd
import Derived.Test.YtnmnibpcklcmgaaMo
import Derived.Test.YtnmnibpcklcmgaaIb
import Derived.Test.YtnmnibpcklcmgaaIw
import Derived.Test.YtnmnibpcklcmgaaLaw
import Derived.Test.YtnmnibpcklcmgaaLb
import Derived.Laws.StructEq
namespace Go.Proofs.Ytnmnibpcklcmgaa
open Go.ChangeShapes Go.WideShapes Go.ChangeAt Go.RowKit

theorem leg_at {T : Nat → Int} {t : Int} {l : Nat} (h1 : l = 0 ∨ T l ≤ t) : ∀ K, l ≤ K → (∀ j, l < j → j ≤ K → t < T j) → legF T t K = l := by
  intro K
  induction K with
  | zero =>
    intro hl _
    obtain rfl : l = 0 := by omega
    rfl
  | succ K ih =>
    intro hl h2
    by_cases e : l = K + 1
    · subst e
      exact legF_no (.inr (by rcases h1 with h | h; · omega
                              · exact h))
    · unfold legF
      rw [if_pos (h2 (K + 1) (by omega) (Nat.le_refl _))]
      exact ih (by omega) fun j hj1 hj2 => h2 j hj1 (by omega)
theorem tr_lt {n : Nat} {T X Y : Nat → Int} (h : isTr n T X Y = true) : ∀ j i, i < j → j < n → T i < T j := by
  obtain ⟨_, _, k⟩ := isTr_t h
  intro j
  induction j with
  | zero => intro i hi; omega
  | succ j ih =>
    intro i hi hj
    have h2 := (k (j + 1) hj).2.2.2 (by omega)
    rw [Nat.add_sub_cancel] at h2
    by_cases e : i = j
    · subst e; exact h2
    · have := ih i (by omega) (by omega); omega
theorem tr_up' {n : Nat} {T X Y : Nat → Int} (h : isTr n T X Y = true) (j i : Nat) (hi : i ≤ j) (hj : j < n) : T i ≤ T j := by
  by_cases e : i = j
  · subst e; exact Int.le_refl _
  · exact Int.le_of_lt (tr_lt h j i (by omega) hj)
theorem mans_pre (wx wy : Int) (X Y : Nat → Int) (k : Nat) : ∀ d, ∃ R, mans wx wy X Y (k + d) = mans wx wy X Y k ++ R ∧ ∀ p ∈ R, ∃ j : Nat, p.1 = (j : Int) ∧ k + 1 ≤ j := by
  intro d
  induction d with
  | zero => exact ⟨[], by simp, fun p hp => by cases hp⟩
  | succ d ih =>
    obtain ⟨R, h1, h2⟩ := ih
    rcases b2 (isMn wx wy X Y (k + d)) with g | g
    · exact ⟨R, by rw [← Nat.add_assoc, mans_no g, h1], h2⟩
    · refine ⟨R ++ [(((k + d + 1 : Nat) : Int), knd wx wy X Y (k + d))], by rw [← Nat.add_assoc, mans_yes g, h1, List.append_assoc], fun p hp => ?_⟩
      rcases List.mem_append.1 hp with hp | hp
      · exact h2 p hp
      · rw [List.mem_singleton] at hp; subst hp; exact ⟨k + d + 1, rfl, by omega⟩
theorem man_at {wx wy : Int} {X Y : Nat → Int} {k m : Nat} (hm : k + 1 ≤ m) (g : isMn wx wy X Y k = true) : (mans wx wy X Y k).length < (mans wx wy X Y m).length ∧ LX (mans wx wy X Y m) (mans wx wy X Y k).length = ((k + 1 : Nat) : Int) := by
  obtain ⟨d, rfl⟩ : ∃ d, m = k + 1 + d := ⟨m - (k + 1), by omega⟩
  obtain ⟨R, h1, _⟩ := mans_pre wx wy X Y (k + 1) d
  rw [h1, mans_yes g]
  refine ⟨by simp, ?_⟩
  unfold LX
  rw [List.append_assoc, List.getElem?_append_right (Nat.le_refl _), Nat.sub_self]
  rfl
theorem man_not {wx wy : Int} {X Y : Nat → Int} {k m : Nat} (hm : k + 1 ≤ m) (g : isMn wx wy X Y k = false) (hp : (mans wx wy X Y k).length < (mans wx wy X Y m).length) : LX (mans wx wy X Y m) (mans wx wy X Y k).length ≠ ((k + 1 : Nat) : Int) := by
  obtain ⟨d, rfl⟩ : ∃ d, m = k + 1 + d := ⟨m - (k + 1), by omega⟩
  obtain ⟨R, h1, h2⟩ := mans_pre wx wy X Y (k + 1) d
  rw [h1, mans_no g] at hp ⊢
  rw [List.length_append] at hp
  unfold LX
  rw [List.getElem?_append_right (Nat.le_refl _), Nat.sub_self, List.getElem?_eq_getElem (by omega)]
  obtain ⟨j, e, hj⟩ := h2 _ (List.getElem_mem (show 0 < R.length by omega))
  show (R[0]).1 ≠ _
  rw [e]
  omega
/-- The tack on a leg, and the code: 0, or 5 with no tack. -/
theorem tk_leg {wx wy : Int} {n l : Nat} {T X Y : Nat → Int} {t : Int} (v1 : isWd wx wy = true) (v2 : isTr n T X Y = true) (v3 : inB t (T 0) (T (n - 1)) = true) (hl : legF T t (n - 2) = l) :
    ∃ c : Int, (c = 0 ∨ c = 5 ∧ lgT wx wy X Y l = 0) ∧ sel (isWd wx wy && (isTr n T X Y && inB t (T 0) (T (n - 1)) && !(wayX n T X t == 0 && wayX n T Y t == 0))) (tackI wx wy (wayX n T X t) (wayX n T Y t)) 0 = lgT wx wy X Y l ∧ sel (isWd wx wy && isTr n T X Y) (sel (inB t (T 0) (T (n - 1))) (sel (wayX n T X t == 0 && wayX n T Y t == 0) 5 0) 2) 1 = c := by
  have e1 : wayX n T X t = X (l + 1) - X l := by unfold wayX; rw [hl]
  have e2 : wayX n T Y t = Y (l + 1) - Y l := by unfold wayX; rw [hl]
  rw [v1, v2, v3, e1, e2]
  unfold lgT
  generalize X (l + 1) - X l = x
  generalize Y (l + 1) - Y l = y
  rcases b2 (x == 0 && y == 0) with g | g
  · rw [g]; exact ⟨0, .inl rfl, rfl, rfl⟩
  · rw [g]
    simp only [Bool.and_eq_true, beq_iff_eq] at g
    obtain ⟨rfl, rfl⟩ := g
    have h0 : tackI wx wy 0 0 = 0 := by unfold tackI; simp
    exact ⟨5, .inr ⟨rfl, h0⟩, by rw [h0]; rfl, rfl⟩
theorem mn_casesF {wx wy : Int} {X Y : Nat → Int} {k : Nat} {a b ca cb : Int} (ha : a = lgT wx wy X Y k) (hb : b = lgT wx wy X Y (k + 1)) (h1 : ca = 0 ∨ ca = 5 ∧ a = 0) (h2 : cb = 0 ∨ cb = 5 ∧ b = 0) :
    (isMn wx wy X Y k = true ∧ ca = 0 ∧ cb = 0 ∧ a ≠ b ∧ a ≠ 0 ∧ b ≠ 0) ∨ (isMn wx wy X Y k = false ∧ (ca = 5 ∨ ca = 0 ∧ cb = 5 ∨ ca = 0 ∧ cb = 0 ∧ a = b ∨ ca = 0 ∧ cb = 0 ∧ a ≠ b ∧ a = 0 ∨ ca = 0 ∧ cb = 0 ∧ a ≠ b ∧ a ≠ 0 ∧ b = 0)) := by
  unfold isMn
  rw [← ha, ← hb]
  by_cases e1 : a = 0
  · refine .inr ⟨by rw [e1]; simp, ?_⟩
    rcases h1 with h1 | h1
    · rcases h2 with h2 | h2
      · by_cases e : a = b
        · exact .inr (.inr (.inl ⟨h1, h2, e⟩))
        · exact .inr (.inr (.inr (.inl ⟨h1, h2, e, e1⟩)))
      · exact .inr (.inl ⟨h1, h2.1⟩)
    · exact .inl h1.1
  · have h1 : ca = 0 := h1.resolve_right fun h => e1 h.2
    by_cases e2 : b = 0
    · refine .inr ⟨by rw [e2]; simp, ?_⟩
      rcases h2 with h2 | h2
      · exact .inr (.inr (.inr (.inr ⟨h1, h2, by omega, e1, e2⟩)))
      · exact .inr (.inl ⟨h1, h2.1⟩)
    · have h2 : cb = 0 := h2.resolve_right fun h => e2 h.2
      by_cases e : a = b
      · exact .inr ⟨by rw [e]; simp, .inr (.inr (.inl ⟨h1, h2, e⟩))⟩
      · exact .inl ⟨by simp [e1, e2, e], h1, h2, e, e1, e2⟩
theorem cmp_man (a b c d : Int) (W : World) : (binOp .neq 39 (.agg #[.int .i64 a, .int .i64 b]) (.agg #[.int .i64 c, .int .i64 d])).run Try.prog W = .ok (.bool (!(a == c && b == d))) W := by
  rcases b2 (a == c) with h1 | h1 <;> rcases b2 (b == d) with h2 | h2 <;> simp [run_neq_struct, run_equalIn_agg, go_sem, *]
set_option maxRecDepth 100000 in
set_option maxHeartbeats 16000000 in
theorem laws_FnManoeuvres (so : Option Addr) (n cap : Nat) (B : Nat → Int) (w : World) (hl : n ≤ maxLen) (h : RowAt w so n 1 (vb B)) (hB : ∀ i, 0 ≤ B i ∧ B i ≤ 255) :
    Calls Try.prog 3 #[.slice so n cap] w fun e w' => e = .returned (.bool true) ∧ Below w.heap.size w w' := by
  unfold maxLen at hl
  by_cases hn : 4096 < n
  · have Hd := hide (decide_eq_true hn)
    go_enter Try.func3, Try.ntmps3
    go_wp2_with (go_at_call 7; (with_reducible refine (laws_big _ _ _ _ (by omega)).mono ?_); rintro e w9 ⟨rfl, rfl⟩; rw [Hd.out])
    go_ret
    exact ⟨rfl, (by repeat (first | with_reducible exact Below.refl _ _ | with_reducible assumption | with_reducible refine Below.drew ?_ | with_reducible refine below_drewN ?_ _ | with_reducible refine Below.setCell ?_ (by first | exact Nat.le_refl _ | (simp; done) | (simp; omega) | (dsimp only; omega)) _ | with_reducible refine Below.alloc ?_ (by first | exact Nat.le_refl _ | (simp; done) | (simp; omega) | (simp at *; omega)) _ | with_reducible refine bstep ?_ (by assumption)))⟩
  have Hd := hide (decide_eq_false hn)
  go_enter Try.func3, Try.ntmps3
  go_wp2_with fail; (with_reducible refine (laws_big _ _ _ _ (by omega)).mono ?_); rintro e w0 ⟨rfl, rfl⟩; rw [Hd.out]
  go_wp2_with fail; (with_reducible refine (spec_DrawManoeuvresOf so n cap B _ h hB (by omega)).mono ?_); rintro e w1 ⟨⟨wx, wy, so2, n2, cap2, T, X, Y, rfl, hn2, hr⟩, hb1⟩; have hz1 := hb1.size
  have HR := hide hr
  have HB1 := hide hb1
  clear hr hb1 hB h Hd
  obtain ⟨Lm, hL⟩ : ∃ L, L = mnL wx wy n2 T X Y := ⟨_, rfl⟩
  obtain ⟨c9, hc9⟩ : ∃ x, x = mnC wx wy n2 T X Y := ⟨_, rfl⟩
  have hLn : Lm.length ≤ 41 := by rw [hL]; have := mnL_len wx wy n2 T X Y; omega
  have HL0 := hide hL
  have HC0 := hide hc9
  clear hL hc9
  have K1 := hide (show ∀ W, Below w1.heap.size w1 W → Calls Try.prog 9 #[.agg #[.int .i64 wx, .int .i64 wy], .agg #[.slice so2 n2 cap2]] W (RetL W Lm c9) from fun W hb => by rw [HL0.out, HC0.out]; exact impl_ManoeuvresOf wx wy so2 n2 cap2 T X Y W (RowAt.later hb HR.out) (by omega))
  have K2 := hide (show ∀ W, Below w1.heap.size w1 W → Calls Try.prog 10 #[.agg #[.int .i64 wx, .int .i64 wy], .agg #[.slice so2 n2 cap2]] W (RetL W Lm c9) from fun W hb => by rw [HL0.out, HC0.out]; exact spec_ManoeuvresOf wx wy so2 n2 cap2 T X Y W (RowAt.later hb HR.out) (by omega))
  go_wp2_with fail; (with_reducible refine (K1.out _ (by repeat (first | with_reducible exact Below.refl _ _ | with_reducible assumption | with_reducible refine Below.drew ?_ | with_reducible refine below_drewN ?_ _ | with_reducible refine Below.setCell ?_ (by first | exact Nat.le_refl _ | (simp; done) | (simp; omega) | (dsimp only; omega)) _ | with_reducible refine Below.alloc ?_ (by first | exact Nat.le_refl _ | (simp; done) | (simp; omega) | (simp at *; omega)) _ | with_reducible refine bstep ?_ (by assumption)))).mono ?_); rintro e w2 ⟨so5, cp5, rfl, hown2, hb2⟩; obtain ⟨hc2, hf2⟩ := bcell hb2; have hz2 := hb2.size
  have z20 : w1.heap.size < w2.heap.size := by simp at hz2; omega
  have z21 : w1.heap.size + 1 < w2.heap.size := by simp at hz2; omega
  have HR2 := hide hown2.row
  clear hown2
  go_wp2_with fail; (with_reducible refine (K2.out _ (by repeat (first | with_reducible exact Below.refl _ _ | with_reducible assumption | with_reducible refine Below.drew ?_ | with_reducible refine below_drewN ?_ _ | with_reducible refine Below.setCell ?_ (by first | exact Nat.le_refl _ | (simp; done) | (simp; omega) | (dsimp only; omega)) _ | with_reducible refine Below.alloc ?_ (by first | exact Nat.le_refl _ | (simp; done) | (simp; omega) | (simp at *; omega)) _ | with_reducible refine bstep ?_ (by assumption)))).mono ?_); rintro e w3 ⟨so6, cp6, rfl, hown3, hb3⟩; obtain ⟨hc3, hf3⟩ := bcell hb3; have hz3 := hb3.size
  have z30 : w1.heap.size < w3.heap.size := by omega
  have z31 : w1.heap.size + 1 < w3.heap.size := by omega
  have HR3 := hide hown3.row
  have HR4 := hide (RowAt.later hb3 HR2.out)
  have c0 : w3.cell? ⟨w1.heap.size, 0, none⟩ = some (.int .i64 wx) := by go_simp
  have c1 : w3.cell? ⟨w1.heap.size, 1, none⟩ = some (.int .i64 wy) := by go_simp
  have c2 : w3.cell? ⟨w1.heap.size + 1, 0, none⟩ = some (.slice so2 n2 cap2) := by go_simp
  have HB3 := hide (show Below w1.heap.size w1 w3 from (by repeat (first | with_reducible exact Below.refl _ _ | with_reducible assumption | with_reducible refine Below.drew ?_ | with_reducible refine below_drewN ?_ _ | with_reducible refine Below.setCell ?_ (by first | exact Nat.le_refl _ | (simp; done) | (simp; omega) | (dsimp only; omega)) _ | with_reducible refine Below.alloc ?_ (by first | exact Nat.le_refl _ | (simp; done) | (simp; omega) | (simp at *; omega)) _ | with_reducible refine bstep ?_ (by assumption))))
  clear hown3 hc2 hf2 hb2 hc3 hf3 hb3 K1 K2 HR2
  by_cases hc0 : ¬ c9 = 0
  · have hcb : (c9 == 0) = false := beq_eq_false_iff_ne.2 hc0
    go_wp2
    go_ret
    exact ⟨rfl, HB1.out.trans (HB3.out.mono hz1)⟩
  obtain rfl : c9 = 0 := Decidable.not_not.1 hc0
  have hL := HL0.out
  have hc9 := HC0.out
  clear HL0 HC0
  have hv : isWd wx wy = true ∧ isTr n2 T X Y = true := by
    revert hc9; unfold mnC; cases isWd wx wy <;> cases isTr n2 T X Y <;> simp [sel]
  obtain ⟨v1, v2⟩ := hv
  rw [show mnL wx wy n2 T X Y = mans wx wy X Y (n2 - 2) by unfold mnL; rw [v1, v2]; rfl] at hL
  obtain ⟨hn0, hn40, _⟩ := isTr_t v2
  have HL := hide hL
  have HT := hide (fun k (hk : k + 2 < n2) => (⟨tr_lt v2 (k + 1) k (by omega) (by omega), (isTr_t v2).2.2 (k + 1) (by omega), (isTr_t v2).2.2 k (by omega)⟩ : T k < T (k + 1) ∧ _ ∧ _))
  have HK := hide (show ∀ k, k + 2 < n2 → ∃ a b ca cb : Int, a = lgT wx wy X Y k ∧ b = lgT wx wy X Y (k + 1) ∧ (ca = 0 ∨ ca = 5 ∧ a = 0) ∧ (cb = 0 ∨ cb = 5 ∧ b = 0) ∧
      (∀ W, Below w1.heap.size w1 W → Calls Try.prog 11 #[.agg #[.int .i64 wx, .int .i64 wy], .agg #[.slice so2 n2 cap2], .int .i64 (T (k + 1) - 1)] W fun e w' => e = .returned (.tuple #[.int .i64 a, .int .i64 ca]) ∧ Below W.heap.size W w') ∧
      (∀ W, Below w1.heap.size w1 W → Calls Try.prog 11 #[.agg #[.int .i64 wx, .int .i64 wy], .agg #[.slice so2 n2 cap2], .int .i64 (T (k + 1))] W fun e w' => e = .returned (.tuple #[.int .i64 b, .int .i64 cb]) ∧ Below W.heap.size W w') from fun k hk => by
    have hk1 := tr_lt v2 (k + 1) k (by omega) (by omega)
    have hk2 := tr_up' v2 k 0 (by omega) (by omega)
    have hk3 := tr_up' v2 (n2 - 1) (k + 1) (by omega) (by omega)
    obtain ⟨ca, h1, e1, e2⟩ := tk_leg (t := T (k + 1) - 1) v1 v2 (decide_eq_true ⟨by omega, by omega⟩) (leg_at (l := k) (.inr (by omega)) (n2 - 2) (by omega) fun j hj1 hj2 => by have := tr_up' v2 j (k + 1) (by omega) (by omega); omega)
    obtain ⟨cb, h2, e3, e4⟩ := tk_leg (t := T (k + 1)) v1 v2 (decide_eq_true ⟨by omega, by omega⟩) (leg_at (l := k + 1) (.inr (Int.le_refl _)) (n2 - 2) (by omega) fun j hj1 hj2 => tr_lt v2 j (k + 1) hj1 (by omega))
    exact ⟨_, _, ca, cb, rfl, rfl, h1, h2, fun W hb => (impl_TackAt wx wy so2 n2 cap2 T X Y _ W (RowAt.later hb HR.out) (by omega)).mono fun e w' k => ⟨by rw [k.1, e1, e2], k.2⟩, fun W hb => (impl_TackAt wx wy so2 n2 cap2 T X Y _ W (RowAt.later hb HR.out) (by omega)).mono fun e w' k => ⟨by rw [k.1, e3, e4], k.2⟩⟩)
  clear hc9 v1 v2 hL hc0
  have hcmp := cmp_man
  go_wp2
  go_loopw [9, 10] (fun a i wr => ∃ j : Nat, 1 ≤ j ∧ j + 1 ≤ n2 ∧ i = .int .i64 (j : Int) ∧ a = .int .i64 ((mans wx wy X Y (j - 1)).length : Int) ∧ wr.cell? ⟨w1.heap.size, 0, none⟩ = some (.int .i64 wx) ∧ wr.cell? ⟨w1.heap.size, 1, none⟩ = some (.int .i64 wy) ∧ wr.cell? ⟨w1.heap.size + 1, 0, none⟩ = some (.slice so2 n2 cap2) ∧ Below w3.heap.size w3 wr) (fun _ i _ => n2 - (intOf i).toNat)
  case atStart => exact ⟨1, Nat.le_refl _, by omega, rfl, rfl, c0, c1, c2, Below.refl _ _⟩
  case round =>
    clear c0 c1 c2
    obtain ⟨j, hj1, hj2, rfl, rfl, c0, c1, c2, hbl⟩ := hrel
    have zr := hbl.size
    have HB2 := hide (bstep HB3.out hbl)
    have zr0 : w1.heap.size < wr.heap.size := by omega
    have zr1 : w1.heap.size + 1 < wr.heap.size := by omega
    obtain ⟨k, hjk⟩ : ∃ k, j = k + 1 := ⟨j - 1, by omega⟩
    have ek : j - 1 = k := by omega
    rw [ek]
    obtain ⟨p, hp⟩ : ∃ p, p = (mans wx wy X Y k).length := ⟨_, rfl⟩
    rw [← hp]
    have wj : IntKind.i64.wrap ((j : Int) + 1) = (j : Int) + 1 := IntWalk.i64_in _ (by omega)
    have hi0 : (0 : Int) ≤ (j : Int) := by omega
    by_cases hlt : j + 1 < n2
    · have hi1 : (j : Int) + 1 < (n2 : Int) := by omega
      have hi3 : (j : Int) < (n2 : Int) := by omega
      obtain ⟨a, b, ca, cb, ha, hb, h1, h2, Ka, Kb⟩ := HK.out k (by omega)
      have hmc := hide (mn_casesF ha hb h1 h2)
      obtain ⟨t1, ⟨t2, t3, _⟩, t4, _⟩ := HT.out k (by omega)
      rw [← hjk] at Ka Kb t2 t3 t1
      have KA := hide Ka
      have KB := hide Kb
      have Hjk := hide hjk
      have Hp := hide hp
      obtain ⟨bT, oT, rfl, hbT, e0, _, _⟩ := (RowAt.later HB2.out HR.out).at3 j (by omega)
      have wt : IntKind.i64.wrap (T j - 1) = T j - 1 := IntWalk.i64_in _ (by omega)
      clear ha hb h1 h2 Ka Kb hjk hp ek t4 t1
      go_upto_region 14 with fail
      refine wp_region_held_drew (S := fun W => Below wr.heap.size wr W) (by kernel_rfl) (Below.drew (Below.refl _ _)) (fun hHeld => ?_)
      refine wpAnyH_take (i := 0) (oi := ⟨some 57, _, _, _, _, _⟩) (v := ?_) rfl (by kernel_rfl) (by kernel_rfl) (by kernel_rfl) (fun _ _ _ h => h) (Or.inl ⟨by kernel_rfl, ?_⟩) (by assumption) ?_; rotate_left; focus (intro W0 hSw; have hcS := (bcell hSw).1; go_simp; (try with_reducible rfl)); (try simp only [Act.put, List.setIfInBounds_toArray, List.set_cons_zero, List.set_cons_succ])
      refine wpAnyH_take (i := 1) (oi := ⟨some 58, _, _, _, _, _⟩) (v := ?_) rfl (by kernel_rfl) (by kernel_rfl) (by kernel_rfl) (fun _ _ _ h => h) (Or.inl ⟨by kernel_rfl, ?_⟩) (by assumption) ?_; rotate_left; focus (intro W0 hSw; have hcS := (bcell hSw).1; go_simp; (try with_reducible rfl)); (try simp only [Act.put, List.setIfInBounds_toArray, List.set_cons_zero, List.set_cons_succ])
      refine wpAnyH_take (i := 2) (oi := ⟨some 59, _, _, _, _, _⟩) (v := ?_) rfl (by kernel_rfl) (by kernel_rfl) (by kernel_rfl) (fun _ _ _ h => h) (Or.inl ⟨by kernel_rfl, ?_⟩) (by assumption) ?_; rotate_left; focus (intro W0 hSw; go_simp; (try with_reducible rfl)); (try simp only [Act.put, List.setIfInBounds_toArray, List.set_cons_zero, List.set_cons_succ])
      refine wpAnyH_take (i := 3) (oi := ⟨some 60, _, _, _, _, _⟩) (v := ?_) rfl (by kernel_rfl) (by kernel_rfl) (by kernel_rfl) (fun _ _ _ h => h) (Or.inl ⟨by kernel_rfl, ?_⟩) (by assumption) ?_; rotate_left; focus (intro W0 hSw; have hcS := (bcell hSw).1; go_simp; (try with_reducible rfl)); (try simp only [Act.put, List.setIfInBounds_toArray, List.set_cons_zero, List.set_cons_succ])
      refine wpAnyH_take (i := 4) (oi := ⟨some 61, _, _, _, _, _⟩) (v := ?_) rfl (by kernel_rfl) (by kernel_rfl) (by kernel_rfl) (fun _ _ _ h => h) (Or.inl ⟨by kernel_rfl, ?_⟩) (by assumption) ?_; rotate_left; focus (intro W0 hSw; go_simp; (try with_reducible rfl)); (try simp only [Act.put, List.setIfInBounds_toArray, List.set_cons_zero, List.set_cons_succ])
      refine wpAnyH_take (i := 5) (oi := ⟨some 62, _, _, _, _, _⟩) (v := ?_) rfl (by kernel_rfl) (by kernel_rfl) (by kernel_rfl) (fun _ _ _ h => h) (Or.inl ⟨by kernel_rfl, ?_⟩) (by assumption) ?_; rotate_left; focus (intro W0 hSw; go_simp; (try with_reducible rfl)); (try simp only [Act.put, List.setIfInBounds_toArray, List.set_cons_zero, List.set_cons_succ])
      refine wpAnyH_take (i := 6) (oi := ⟨some 63, _, _, _, _, _⟩) (v := ?_) rfl (by kernel_rfl) (by kernel_rfl) (by kernel_rfl) (fun _ _ _ h => h) (Or.inl ⟨by kernel_rfl, ?_⟩) (by assumption) ?_; rotate_left; focus (intro W0 hSw; go_simp; (try with_reducible rfl)); (try simp only [Act.put, List.setIfInBounds_toArray, List.set_cons_zero, List.set_cons_succ])
      refine wpAnyH_take (i := 7) (oi := ⟨some 64, _, _, _, _, _⟩) (v := ?_) rfl (by kernel_rfl) (by kernel_rfl) (by kernel_rfl) (fun _ _ _ h => h) (Or.inl ⟨by kernel_rfl, ?_⟩) (by assumption) ?_; rotate_left; focus (intro W0 hSw; have hcS := (bcell hSw).1; go_simp; (try with_reducible rfl)); (try simp only [Act.put, List.setIfInBounds_toArray, List.set_cons_zero, List.set_cons_succ])
      refine wpAnyH_take (i := 8) (oi := ⟨some 65, _, _, _, _, _⟩) (v := ?_) rfl (by kernel_rfl) (by kernel_rfl) (by kernel_rfl) (fun _ _ _ h => h) (Or.inl ⟨by kernel_rfl, ?_⟩) (by assumption) ?_; rotate_left; focus (intro W0 hSw; go_simp; (try with_reducible rfl)); (try simp only [Act.put, List.setIfInBounds_toArray, List.set_cons_zero, List.set_cons_succ])
      refine wpAnyH_inv2 (fuel := 0) [9, 10, 11, 12, 13, 14] [] [66, 56, 67, 68, 11, 12] (fun uT L W => Below wr.heap.size wr W ∧ (L 9 → (uT 66) = (.tuple #[.int .i64 a, .int .i64 ca])) ∧ (L 10 → (uT 56) = (.tuple #[.int .i64 a, .int .i64 ca])) ∧ (L 11 → (uT 67) = (.int .i64 a)) ∧ (L 12 → (uT 68) = (.int .i64 ca)) ∧ (L 13 → (uT 11) = (.int .i64 a)) ∧ (L 14 → (uT 12) = (.int .i64 ca)) ∧ True) (by decide) (by kernel_rfl) (by kernel_rfl) (fun _ _ _ _ _ h => h) (fun uT L W hJ => hJ.1) (fun uT L hL => ⟨hHeld, fun k => absurd k (hL 9 (by decide)), fun k => absurd k (hL 10 (by decide)), fun k => absurd k (hL 11 (by decide)), fun k => absurd k (hL 12 (by decide)), fun k => absurd k (hL 13 (by decide)), fun k => absurd k (hL 14 (by decide)), trivial⟩) ?_ ?_ ?_
      · refine StepsH.cons (d := 66) (o := ⟨some 66, _, _, _, _, _⟩) rfl rfl (by kernel_rfl) ?_ ?_
        rotate_left
        refine StepsH.cons (d := 56) (o := ⟨some 56, _, _, _, _, _⟩) rfl rfl (by kernel_rfl) ?_ ?_
        rotate_left
        refine StepsH.cons (d := 67) (o := ⟨some 67, _, _, _, _, _⟩) rfl rfl (by kernel_rfl) ?_ ?_
        rotate_left
        refine StepsH.cons (d := 68) (o := ⟨some 68, _, _, _, _, _⟩) rfl rfl (by kernel_rfl) ?_ ?_
        rotate_left
        refine StepsH.cons (d := 11) (o := ⟨some 11, _, _, _, _, _⟩) rfl rfl (by kernel_rfl) ?_ ?_
        rotate_left
        refine StepsH.cons (d := 12) (o := ⟨some 12, _, _, _, _, _⟩) rfl rfl (by kernel_rfl) ?_ ?_
        rotate_left
        exact StepsH.nil
        · intro uT L W hn hd hJ
          obtain ⟨hk, f66, f56, f67, f68, f11, f12, _⟩ := hJ
          intro K hK
          simp only [puts, Act.put, List.setIfInBounds_toArray, List.set_cons_zero, List.set_cons_succ]
          go_simp; (go_at_call 11; (with_reducible refine (KA.out _ (bstep HB2.out hk)).mono ?_); rintro e w9 ⟨rfl, hb⟩; have hzz := hb.size)
          all_goals (try go_wp2_with fail)
          all_goals
            apply Shut.go4 (W := W) hK
            · simp only [puts, Act.put, List.setIfInBounds_toArray, List.set_cons_zero, List.set_cons_succ]; rfl
            · first | with_reducible assumption | with_reducible exact Below.refl _ _ | exact Below.alloc (Below.refl _ _) (Nat.le_refl _) _
            · intro hb; exact ⟨bstep hk hb, fun _ => upd_same _ _ _, fun k => by rw [upd_ne uT _ (by decide)]; exact (f56 (k.resolve_left (by decide))), fun k => by rw [upd_ne uT _ (by decide)]; exact (f67 (k.resolve_left (by decide))), fun k => by rw [upd_ne uT _ (by decide)]; exact (f68 (k.resolve_left (by decide))), fun k => by rw [upd_ne uT _ (by decide)]; exact (f11 (k.resolve_left (by decide))), fun k => by rw [upd_ne uT _ (by decide)]; exact (f12 (k.resolve_left (by decide))), trivial⟩
        · intro uT L W hn hd hJ
          obtain ⟨hk, f66, f56, f67, f68, f11, f12, _⟩ := hJ
          obtain e66 := f66 (hd 9 (by kernel_rfl))
          intro K hK
          simp only [puts, Act.put, List.setIfInBounds_toArray, List.set_cons_zero, List.set_cons_succ, e66]
          go_simp
          all_goals (try go_wp2_with fail)
          all_goals
            apply Shut.go4 (W := W) hK
            · simp only [puts, Act.put, List.setIfInBounds_toArray, List.set_cons_zero, List.set_cons_succ, e66]; rfl
            · first | with_reducible assumption | with_reducible exact Below.refl _ _ | exact Below.alloc (Below.refl _ _) (Nat.le_refl _) _
            · intro hb; exact ⟨bstep hk hb, fun k => by rw [upd_ne uT _ (by decide)]; exact (f66 (k.resolve_left (by decide))), fun _ => upd_same _ _ _, fun k => by rw [upd_ne uT _ (by decide)]; exact (f67 (k.resolve_left (by decide))), fun k => by rw [upd_ne uT _ (by decide)]; exact (f68 (k.resolve_left (by decide))), fun k => by rw [upd_ne uT _ (by decide)]; exact (f11 (k.resolve_left (by decide))), fun k => by rw [upd_ne uT _ (by decide)]; exact (f12 (k.resolve_left (by decide))), trivial⟩
        · intro uT L W hn hd hJ
          obtain ⟨hk, f66, f56, f67, f68, f11, f12, _⟩ := hJ
          obtain e56 := f56 (hd 10 (by kernel_rfl))
          intro K hK
          simp only [puts, Act.put, List.setIfInBounds_toArray, List.set_cons_zero, List.set_cons_succ, e56]
          go_simp
          all_goals (try go_wp2_with fail)
          all_goals
            apply Shut.go4 (W := W) hK
            · simp only [puts, Act.put, List.setIfInBounds_toArray, List.set_cons_zero, List.set_cons_succ, e56]; rfl
            · first | with_reducible assumption | with_reducible exact Below.refl _ _ | exact Below.alloc (Below.refl _ _) (Nat.le_refl _) _
            · intro hb; exact ⟨bstep hk hb, fun k => by rw [upd_ne uT _ (by decide)]; exact (f66 (k.resolve_left (by decide))), fun k => by rw [upd_ne uT _ (by decide)]; exact (f56 (k.resolve_left (by decide))), fun _ => upd_same _ _ _, fun k => by rw [upd_ne uT _ (by decide)]; exact (f68 (k.resolve_left (by decide))), fun k => by rw [upd_ne uT _ (by decide)]; exact (f11 (k.resolve_left (by decide))), fun k => by rw [upd_ne uT _ (by decide)]; exact (f12 (k.resolve_left (by decide))), trivial⟩
        · intro uT L W hn hd hJ
          obtain ⟨hk, f66, f56, f67, f68, f11, f12, _⟩ := hJ
          obtain e56 := f56 (hd 10 (by kernel_rfl))
          intro K hK
          simp only [puts, Act.put, List.setIfInBounds_toArray, List.set_cons_zero, List.set_cons_succ, e56]
          go_simp
          all_goals (try go_wp2_with fail)
          all_goals
            apply Shut.go4 (W := W) hK
            · simp only [puts, Act.put, List.setIfInBounds_toArray, List.set_cons_zero, List.set_cons_succ, e56]; rfl
            · first | with_reducible assumption | with_reducible exact Below.refl _ _ | exact Below.alloc (Below.refl _ _) (Nat.le_refl _) _
            · intro hb; exact ⟨bstep hk hb, fun k => by rw [upd_ne uT _ (by decide)]; exact (f66 (k.resolve_left (by decide))), fun k => by rw [upd_ne uT _ (by decide)]; exact (f56 (k.resolve_left (by decide))), fun k => by rw [upd_ne uT _ (by decide)]; exact (f67 (k.resolve_left (by decide))), fun _ => upd_same _ _ _, fun k => by rw [upd_ne uT _ (by decide)]; exact (f11 (k.resolve_left (by decide))), fun k => by rw [upd_ne uT _ (by decide)]; exact (f12 (k.resolve_left (by decide))), trivial⟩
        · intro uT L W hn hd hJ
          obtain ⟨hk, f66, f56, f67, f68, f11, f12, _⟩ := hJ
          obtain e67 := f67 (hd 11 (by kernel_rfl))
          intro K hK
          simp only [puts, Act.put, List.setIfInBounds_toArray, List.set_cons_zero, List.set_cons_succ, e67]
          go_simp
          all_goals (try go_wp2_with fail)
          all_goals
            apply Shut.go4 (W := W) hK
            · simp only [puts, Act.put, List.setIfInBounds_toArray, List.set_cons_zero, List.set_cons_succ, e67]; rfl
            · first | with_reducible assumption | with_reducible exact Below.refl _ _ | exact Below.alloc (Below.refl _ _) (Nat.le_refl _) _
            · intro hb; exact ⟨bstep hk hb, fun k => by rw [upd_ne uT _ (by decide)]; exact (f66 (k.resolve_left (by decide))), fun k => by rw [upd_ne uT _ (by decide)]; exact (f56 (k.resolve_left (by decide))), fun k => by rw [upd_ne uT _ (by decide)]; exact (f67 (k.resolve_left (by decide))), fun k => by rw [upd_ne uT _ (by decide)]; exact (f68 (k.resolve_left (by decide))), fun _ => upd_same _ _ _, fun k => by rw [upd_ne uT _ (by decide)]; exact (f12 (k.resolve_left (by decide))), trivial⟩
        · intro uT L W hn hd hJ
          obtain ⟨hk, f66, f56, f67, f68, f11, f12, _⟩ := hJ
          obtain e68 := f68 (hd 12 (by kernel_rfl))
          intro K hK
          simp only [puts, Act.put, List.setIfInBounds_toArray, List.set_cons_zero, List.set_cons_succ, e68]
          go_simp
          all_goals (try go_wp2_with fail)
          all_goals
            apply Shut.go4 (W := W) hK
            · simp only [puts, Act.put, List.setIfInBounds_toArray, List.set_cons_zero, List.set_cons_succ, e68]; rfl
            · first | with_reducible assumption | with_reducible exact Below.refl _ _ | exact Below.alloc (Below.refl _ _) (Nat.le_refl _) _
            · intro hb; exact ⟨bstep hk hb, fun k => by rw [upd_ne uT _ (by decide)]; exact (f66 (k.resolve_left (by decide))), fun k => by rw [upd_ne uT _ (by decide)]; exact (f56 (k.resolve_left (by decide))), fun k => by rw [upd_ne uT _ (by decide)]; exact (f67 (k.resolve_left (by decide))), fun k => by rw [upd_ne uT _ (by decide)]; exact (f68 (k.resolve_left (by decide))), fun k => by rw [upd_ne uT _ (by decide)]; exact (f11 (k.resolve_left (by decide))), fun _ => upd_same _ _ _, trivial⟩
      · exact PuresH.nil
      · intro uT L W hJ hL
        obtain ⟨hk, f66, f56, f67, f68, f11, f12, _⟩ := hJ
        obtain e66 := f66 (hL 9 (by kernel_rfl))
        obtain e56 := f56 (hL 10 (by kernel_rfl))
        obtain e67 := f67 (hL 11 (by kernel_rfl))
        obtain e68 := f68 (hL 12 (by kernel_rfl))
        obtain e11 := f11 (hL 13 (by kernel_rfl))
        obtain e12 := f12 (hL 14 (by kernel_rfl))
        clear hHeld; have hcW := (bcell hk).1; have hfW := (bcell hk).2; have lW := Below.size hk; have hHeld := hk
        clear f66
        clear f56
        clear f67
        clear f68
        clear f11
        clear f12
        simp only [puts, Act.put, List.setIfInBounds_toArray, List.set_cons_zero, List.set_cons_succ, setAll, Array.replicate, e66, e56, e67, e68, e11, e12]
        refine wpAnyH_done (by kernel_rfl) ?_ _; (try simp only [Act.put, List.setIfInBounds_toArray, List.set_cons_zero, List.set_cons_succ])
        obtain ⟨wP, rfl⟩ : ∃ x : World, x = W := ⟨_, rfl⟩
        have p0 := cell_later hHeld c0
        have p1 := cell_later hHeld c1
        have p2 := cell_later hHeld c2
        have pe := cell_later hHeld e0
        have HBP := hide (bstep HB2.out hHeld)
        have HblP := hide (bstep hbl hHeld)
        have zP := hHeld.size
        have zP0 : w1.heap.size < wP.heap.size := by omega
        have zP1 : w1.heap.size + 1 < wP.heap.size := by omega
        have hbP : bT < wP.heap.size := by omega
        clear c0 c1 c2 e0 hHeld KA hcW hfW
        go_upto_region 15 with fail
        refine wp_region_held_drew (S := fun W => Below wP.heap.size wP W) (by kernel_rfl) (Below.drew (Below.refl _ _)) (fun hHeld => ?_)
        refine wpAnyH_take (i := 0) (oi := ⟨some 70, _, _, _, _, _⟩) (v := ?_) rfl (by kernel_rfl) (by kernel_rfl) (by kernel_rfl) (fun _ _ _ h => h) (Or.inl ⟨by kernel_rfl, ?_⟩) (by assumption) ?_; rotate_left; focus (intro W0 hSw; have hcS := (bcell hSw).1; go_simp; (try with_reducible rfl)); (try simp only [Act.put, List.setIfInBounds_toArray, List.set_cons_zero, List.set_cons_succ])
        refine wpAnyH_take (i := 1) (oi := ⟨some 71, _, _, _, _, _⟩) (v := ?_) rfl (by kernel_rfl) (by kernel_rfl) (by kernel_rfl) (fun _ _ _ h => h) (Or.inl ⟨by kernel_rfl, ?_⟩) (by assumption) ?_; rotate_left; focus (intro W0 hSw; have hcS := (bcell hSw).1; go_simp; (try with_reducible rfl)); (try simp only [Act.put, List.setIfInBounds_toArray, List.set_cons_zero, List.set_cons_succ])
        refine wpAnyH_take (i := 2) (oi := ⟨some 72, _, _, _, _, _⟩) (v := ?_) rfl (by kernel_rfl) (by kernel_rfl) (by kernel_rfl) (fun _ _ _ h => h) (Or.inl ⟨by kernel_rfl, ?_⟩) (by assumption) ?_; rotate_left; focus (intro W0 hSw; go_simp; (try with_reducible rfl)); (try simp only [Act.put, List.setIfInBounds_toArray, List.set_cons_zero, List.set_cons_succ])
        refine wpAnyH_take (i := 3) (oi := ⟨some 73, _, _, _, _, _⟩) (v := ?_) rfl (by kernel_rfl) (by kernel_rfl) (by kernel_rfl) (fun _ _ _ h => h) (Or.inl ⟨by kernel_rfl, ?_⟩) (by assumption) ?_; rotate_left; focus (intro W0 hSw; have hcS := (bcell hSw).1; go_simp; (try with_reducible rfl)); (try simp only [Act.put, List.setIfInBounds_toArray, List.set_cons_zero, List.set_cons_succ])
        refine wpAnyH_take (i := 4) (oi := ⟨some 74, _, _, _, _, _⟩) (v := ?_) rfl (by kernel_rfl) (by kernel_rfl) (by kernel_rfl) (fun _ _ _ h => h) (Or.inl ⟨by kernel_rfl, ?_⟩) (by assumption) ?_; rotate_left; focus (intro W0 hSw; go_simp; (try with_reducible rfl)); (try simp only [Act.put, List.setIfInBounds_toArray, List.set_cons_zero, List.set_cons_succ])
        refine wpAnyH_take (i := 5) (oi := ⟨some 75, _, _, _, _, _⟩) (v := ?_) rfl (by kernel_rfl) (by kernel_rfl) (by kernel_rfl) (fun _ _ _ h => h) (Or.inl ⟨by kernel_rfl, ?_⟩) (by assumption) ?_; rotate_left; focus (intro W0 hSw; go_simp; (try with_reducible rfl)); (try simp only [Act.put, List.setIfInBounds_toArray, List.set_cons_zero, List.set_cons_succ])
        refine wpAnyH_take (i := 6) (oi := ⟨some 76, _, _, _, _, _⟩) (v := ?_) rfl (by kernel_rfl) (by kernel_rfl) (by kernel_rfl) (fun _ _ _ h => h) (Or.inl ⟨by kernel_rfl, ?_⟩) (by assumption) ?_; rotate_left; focus (intro W0 hSw; go_simp; (try with_reducible rfl)); (try simp only [Act.put, List.setIfInBounds_toArray, List.set_cons_zero, List.set_cons_succ])
        refine wpAnyH_take (i := 7) (oi := ⟨some 77, _, _, _, _, _⟩) (v := ?_) rfl (by kernel_rfl) (by kernel_rfl) (by kernel_rfl) (fun _ _ _ h => h) (Or.inl ⟨by kernel_rfl, ?_⟩) (by assumption) ?_; rotate_left; focus (intro W0 hSw; have hcS := (bcell hSw).1; go_simp; (try with_reducible rfl)); (try simp only [Act.put, List.setIfInBounds_toArray, List.set_cons_zero, List.set_cons_succ])
        refine wpAnyH_inv2 (fuel := 0) [8, 9, 10, 11, 12, 13] [] [78, 69, 79, 80, 13, 14] (fun uT L W => Below wP.heap.size wP W ∧ (L 8 → (uT 78) = (.tuple #[.int .i64 b, .int .i64 cb])) ∧ (L 9 → (uT 69) = (.tuple #[.int .i64 b, .int .i64 cb])) ∧ (L 10 → (uT 79) = (.int .i64 b)) ∧ (L 11 → (uT 80) = (.int .i64 cb)) ∧ (L 12 → (uT 13) = (.int .i64 b)) ∧ (L 13 → (uT 14) = (.int .i64 cb)) ∧ True) (by decide) (by kernel_rfl) (by kernel_rfl) (fun _ _ _ _ _ h => h) (fun uT L W hJ => hJ.1) (fun uT L hL => ⟨hHeld, fun k => absurd k (hL 8 (by decide)), fun k => absurd k (hL 9 (by decide)), fun k => absurd k (hL 10 (by decide)), fun k => absurd k (hL 11 (by decide)), fun k => absurd k (hL 12 (by decide)), fun k => absurd k (hL 13 (by decide)), trivial⟩) ?_ ?_ ?_
        · refine StepsH.cons (d := 78) (o := ⟨some 78, _, _, _, _, _⟩) rfl rfl (by kernel_rfl) ?_ ?_
          rotate_left
          refine StepsH.cons (d := 69) (o := ⟨some 69, _, _, _, _, _⟩) rfl rfl (by kernel_rfl) ?_ ?_
          rotate_left
          refine StepsH.cons (d := 79) (o := ⟨some 79, _, _, _, _, _⟩) rfl rfl (by kernel_rfl) ?_ ?_
          rotate_left
          refine StepsH.cons (d := 80) (o := ⟨some 80, _, _, _, _, _⟩) rfl rfl (by kernel_rfl) ?_ ?_
          rotate_left
          refine StepsH.cons (d := 13) (o := ⟨some 13, _, _, _, _, _⟩) rfl rfl (by kernel_rfl) ?_ ?_
          rotate_left
          refine StepsH.cons (d := 14) (o := ⟨some 14, _, _, _, _, _⟩) rfl rfl (by kernel_rfl) ?_ ?_
          rotate_left
          exact StepsH.nil
          · intro uT L W hn hd hJ
            obtain ⟨hk, f78, f69, f79, f80, f13, f14, _⟩ := hJ
            intro K hK
            simp only [puts, Act.put, List.setIfInBounds_toArray, List.set_cons_zero, List.set_cons_succ]
            go_simp; (go_at_call 11; (with_reducible refine (KB.out _ (bstep HBP.out hk)).mono ?_); rintro e w9 ⟨rfl, hb⟩; have hzz := hb.size)
            all_goals (try go_wp2_with fail)
            all_goals
              apply Shut.go4 (W := W) hK
              · simp only [puts, Act.put, List.setIfInBounds_toArray, List.set_cons_zero, List.set_cons_succ]; rfl
              · first | with_reducible assumption | with_reducible exact Below.refl _ _ | exact Below.alloc (Below.refl _ _) (Nat.le_refl _) _
              · intro hb; exact ⟨bstep hk hb, fun _ => upd_same _ _ _, fun k => by rw [upd_ne uT _ (by decide)]; exact (f69 (k.resolve_left (by decide))), fun k => by rw [upd_ne uT _ (by decide)]; exact (f79 (k.resolve_left (by decide))), fun k => by rw [upd_ne uT _ (by decide)]; exact (f80 (k.resolve_left (by decide))), fun k => by rw [upd_ne uT _ (by decide)]; exact (f13 (k.resolve_left (by decide))), fun k => by rw [upd_ne uT _ (by decide)]; exact (f14 (k.resolve_left (by decide))), trivial⟩
          · intro uT L W hn hd hJ
            obtain ⟨hk, f78, f69, f79, f80, f13, f14, _⟩ := hJ
            obtain e78 := f78 (hd 8 (by kernel_rfl))
            intro K hK
            simp only [puts, Act.put, List.setIfInBounds_toArray, List.set_cons_zero, List.set_cons_succ, e78]
            go_simp
            all_goals (try go_wp2_with fail)
            all_goals
              apply Shut.go4 (W := W) hK
              · simp only [puts, Act.put, List.setIfInBounds_toArray, List.set_cons_zero, List.set_cons_succ, e78]; rfl
              · first | with_reducible assumption | with_reducible exact Below.refl _ _ | exact Below.alloc (Below.refl _ _) (Nat.le_refl _) _
              · intro hb; exact ⟨bstep hk hb, fun k => by rw [upd_ne uT _ (by decide)]; exact (f78 (k.resolve_left (by decide))), fun _ => upd_same _ _ _, fun k => by rw [upd_ne uT _ (by decide)]; exact (f79 (k.resolve_left (by decide))), fun k => by rw [upd_ne uT _ (by decide)]; exact (f80 (k.resolve_left (by decide))), fun k => by rw [upd_ne uT _ (by decide)]; exact (f13 (k.resolve_left (by decide))), fun k => by rw [upd_ne uT _ (by decide)]; exact (f14 (k.resolve_left (by decide))), trivial⟩
          · intro uT L W hn hd hJ
            obtain ⟨hk, f78, f69, f79, f80, f13, f14, _⟩ := hJ
            obtain e69 := f69 (hd 9 (by kernel_rfl))
            intro K hK
            simp only [puts, Act.put, List.setIfInBounds_toArray, List.set_cons_zero, List.set_cons_succ, e69]
            go_simp
            all_goals (try go_wp2_with fail)
            all_goals
              apply Shut.go4 (W := W) hK
              · simp only [puts, Act.put, List.setIfInBounds_toArray, List.set_cons_zero, List.set_cons_succ, e69]; rfl
              · first | with_reducible assumption | with_reducible exact Below.refl _ _ | exact Below.alloc (Below.refl _ _) (Nat.le_refl _) _
              · intro hb; exact ⟨bstep hk hb, fun k => by rw [upd_ne uT _ (by decide)]; exact (f78 (k.resolve_left (by decide))), fun k => by rw [upd_ne uT _ (by decide)]; exact (f69 (k.resolve_left (by decide))), fun _ => upd_same _ _ _, fun k => by rw [upd_ne uT _ (by decide)]; exact (f80 (k.resolve_left (by decide))), fun k => by rw [upd_ne uT _ (by decide)]; exact (f13 (k.resolve_left (by decide))), fun k => by rw [upd_ne uT _ (by decide)]; exact (f14 (k.resolve_left (by decide))), trivial⟩
          · intro uT L W hn hd hJ
            obtain ⟨hk, f78, f69, f79, f80, f13, f14, _⟩ := hJ
            obtain e69 := f69 (hd 9 (by kernel_rfl))
            intro K hK
            simp only [puts, Act.put, List.setIfInBounds_toArray, List.set_cons_zero, List.set_cons_succ, e69]
            go_simp
            all_goals (try go_wp2_with fail)
            all_goals
              apply Shut.go4 (W := W) hK
              · simp only [puts, Act.put, List.setIfInBounds_toArray, List.set_cons_zero, List.set_cons_succ, e69]; rfl
              · first | with_reducible assumption | with_reducible exact Below.refl _ _ | exact Below.alloc (Below.refl _ _) (Nat.le_refl _) _
              · intro hb; exact ⟨bstep hk hb, fun k => by rw [upd_ne uT _ (by decide)]; exact (f78 (k.resolve_left (by decide))), fun k => by rw [upd_ne uT _ (by decide)]; exact (f69 (k.resolve_left (by decide))), fun k => by rw [upd_ne uT _ (by decide)]; exact (f79 (k.resolve_left (by decide))), fun _ => upd_same _ _ _, fun k => by rw [upd_ne uT _ (by decide)]; exact (f13 (k.resolve_left (by decide))), fun k => by rw [upd_ne uT _ (by decide)]; exact (f14 (k.resolve_left (by decide))), trivial⟩
          · intro uT L W hn hd hJ
            obtain ⟨hk, f78, f69, f79, f80, f13, f14, _⟩ := hJ
            obtain e79 := f79 (hd 10 (by kernel_rfl))
            intro K hK
            simp only [puts, Act.put, List.setIfInBounds_toArray, List.set_cons_zero, List.set_cons_succ, e79]
            go_simp
            all_goals (try go_wp2_with fail)
            all_goals
              apply Shut.go4 (W := W) hK
              · simp only [puts, Act.put, List.setIfInBounds_toArray, List.set_cons_zero, List.set_cons_succ, e79]; rfl
              · first | with_reducible assumption | with_reducible exact Below.refl _ _ | exact Below.alloc (Below.refl _ _) (Nat.le_refl _) _
              · intro hb; exact ⟨bstep hk hb, fun k => by rw [upd_ne uT _ (by decide)]; exact (f78 (k.resolve_left (by decide))), fun k => by rw [upd_ne uT _ (by decide)]; exact (f69 (k.resolve_left (by decide))), fun k => by rw [upd_ne uT _ (by decide)]; exact (f79 (k.resolve_left (by decide))), fun k => by rw [upd_ne uT _ (by decide)]; exact (f80 (k.resolve_left (by decide))), fun _ => upd_same _ _ _, fun k => by rw [upd_ne uT _ (by decide)]; exact (f14 (k.resolve_left (by decide))), trivial⟩
          · intro uT L W hn hd hJ
            obtain ⟨hk, f78, f69, f79, f80, f13, f14, _⟩ := hJ
            obtain e80 := f80 (hd 11 (by kernel_rfl))
            intro K hK
            simp only [puts, Act.put, List.setIfInBounds_toArray, List.set_cons_zero, List.set_cons_succ, e80]
            go_simp
            all_goals (try go_wp2_with fail)
            all_goals
              apply Shut.go4 (W := W) hK
              · simp only [puts, Act.put, List.setIfInBounds_toArray, List.set_cons_zero, List.set_cons_succ, e80]; rfl
              · first | with_reducible assumption | with_reducible exact Below.refl _ _ | exact Below.alloc (Below.refl _ _) (Nat.le_refl _) _
              · intro hb; exact ⟨bstep hk hb, fun k => by rw [upd_ne uT _ (by decide)]; exact (f78 (k.resolve_left (by decide))), fun k => by rw [upd_ne uT _ (by decide)]; exact (f69 (k.resolve_left (by decide))), fun k => by rw [upd_ne uT _ (by decide)]; exact (f79 (k.resolve_left (by decide))), fun k => by rw [upd_ne uT _ (by decide)]; exact (f80 (k.resolve_left (by decide))), fun k => by rw [upd_ne uT _ (by decide)]; exact (f13 (k.resolve_left (by decide))), fun _ => upd_same _ _ _, trivial⟩
        · exact PuresH.nil
        · intro uT L W hJ hL
          obtain ⟨hk, f78, f69, f79, f80, f13, f14, _⟩ := hJ
          obtain e78 := f78 (hL 8 (by kernel_rfl))
          obtain e69 := f69 (hL 9 (by kernel_rfl))
          obtain e79 := f79 (hL 10 (by kernel_rfl))
          obtain e80 := f80 (hL 11 (by kernel_rfl))
          obtain e13 := f13 (hL 12 (by kernel_rfl))
          obtain e14 := f14 (hL 13 (by kernel_rfl))
          clear hHeld; have hcW := (bcell hk).1; have hfW := (bcell hk).2; have lW := Below.size hk; have hHeld := hk
          clear f78
          clear f69
          clear f79
          clear f80
          clear f13
          clear f14
          simp only [puts, Act.put, List.setIfInBounds_toArray, List.set_cons_zero, List.set_cons_succ, setAll, Array.replicate, e78, e69, e79, e80, e13, e14]
          refine wpAnyH_done (by kernel_rfl) ?_ _; (try simp only [Act.put, List.setIfInBounds_toArray, List.set_cons_zero, List.set_cons_succ])
          obtain ⟨wQ, rfl⟩ : ∃ x : World, x = W := ⟨_, rfl⟩
          have r0 := cell_later hHeld p0
          have r1 := cell_later hHeld p1
          have r2 := cell_later hHeld p2
          have HblQ := hide (bstep HblP.out hHeld)
          clear p0 p1 p2 pe hHeld KB hcW hfW
          rcases hmc.out with ⟨g, rfl, rfl, n4, n5, n6⟩ | ⟨g, hv⟩
          · obtain ⟨hp1, hp2⟩ := man_at (m := n2 - 2) (by have := Hjk.out; omega) g
            rw [← HL.out, ← Hp.out] at hp1 hp2
            rw [← Hjk.out] at hp2
            have Hm := hide (show (mans wx wy X Y (j + 1 - 1)).length = p + 1 by rw [Nat.add_sub_cancel, Hjk.out, mans_yes g, List.length_append, ← Hp.out]; rfl)
            have hp3 : (p : Int) < (Lm.length : Int) := by omega
            have hp4 : (0 : Int) ≤ (p : Int) := by omega
            obtain ⟨b3, o3, rfl, _, d0, d1⟩ := (RowAt.later HblQ.out HR3.out).at2 p hp1
            obtain ⟨b4, o4, rfl, _, f0, f1⟩ := (RowAt.later HblQ.out HR4.out).at2 p hp1
            rw [hp2] at d0 f0
            have n4a : (a == b) = false := beq_eq_false_iff_ne.2 n4
            have n5a : (a == 0) = false := beq_eq_false_iff_ne.2 n5
            have n6a : (b == 0) = false := beq_eq_false_iff_ne.2 n6
            have n4b : (a != b) = true := bne_iff_ne.2 n4
            have n5b : (a != 0) = true := bne_iff_ne.2 n5
            have n6b : (b != 0) = true := bne_iff_ne.2 n6
            clear hp2
            go_upto_region 21 with fail
            go_quiet (fail)
            go_wp2
            go_roundw
            case rel => exact ⟨j + 1, by omega, by omega, by go_num, by rw [Hm.out]; go_num, r0, r1, r2, (by repeat (first | with_reducible exact Below.refl _ _ | with_reducible assumption | with_reducible refine Below.drew ?_ | with_reducible refine below_drewN ?_ _ | with_reducible refine Below.setCell ?_ (by first | exact Nat.le_refl _ | (simp; done) | (simp; omega) | (dsimp only; omega)) _ | with_reducible refine Below.alloc ?_ (by first | exact Nat.le_refl _ | (simp; done) | (simp; omega) | (simp at *; omega)) _ | with_reducible refine bstep ?_ (by assumption)))⟩
            case measure => simp [intOf]; omega
          · have Hm := hide (show (mans wx wy X Y (j + 1 - 1)).length = p by rw [Nat.add_sub_cancel, Hjk.out, mans_no g, ← Hp.out])
            by_cases hp1 : p < Lm.length
            · have hp3 : (p : Int) < (Lm.length : Int) := by omega
              have hp4 : (0 : Int) ≤ (p : Int) := by omega
              obtain ⟨b3, o3, rfl, _, d0, d1⟩ := (RowAt.later HblQ.out HR3.out).at2 p hp1
              have hne := man_not (m := n2 - 2) (by have := Hjk.out; omega) g (by rw [← HL.out, ← Hp.out]; exact hp1)
              rw [← HL.out, ← Hp.out, ← Hjk.out] at hne
              have hna : (LX Lm p == (j : Int)) = false := beq_eq_false_iff_ne.2 hne
              rcases hv with rfl | ⟨rfl, rfl⟩ | ⟨rfl, rfl, rfl⟩ | ⟨rfl, rfl, n4, rfl⟩ | ⟨rfl, rfl, n4, n5, rfl⟩
              · go_wp2
                go_roundw
                case rel => exact ⟨j + 1, by omega, by omega, by go_num, by rw [Hm.out], r0, r1, r2, (by repeat (first | with_reducible exact Below.refl _ _ | with_reducible assumption | with_reducible refine Below.drew ?_ | with_reducible refine below_drewN ?_ _ | with_reducible refine Below.setCell ?_ (by first | exact Nat.le_refl _ | (simp; done) | (simp; omega) | (dsimp only; omega)) _ | with_reducible refine Below.alloc ?_ (by first | exact Nat.le_refl _ | (simp; done) | (simp; omega) | (simp at *; omega)) _ | with_reducible refine bstep ?_ (by assumption)))⟩
                case measure => simp [intOf]; omega
              · go_wp2
                go_roundw
                case rel => exact ⟨j + 1, by omega, by omega, by go_num, by rw [Hm.out], r0, r1, r2, (by repeat (first | with_reducible exact Below.refl _ _ | with_reducible assumption | with_reducible refine Below.drew ?_ | with_reducible refine below_drewN ?_ _ | with_reducible refine Below.setCell ?_ (by first | exact Nat.le_refl _ | (simp; done) | (simp; omega) | (dsimp only; omega)) _ | with_reducible refine Below.alloc ?_ (by first | exact Nat.le_refl _ | (simp; done) | (simp; omega) | (simp at *; omega)) _ | with_reducible refine bstep ?_ (by assumption)))⟩
                case measure => simp [intOf]; omega
              · go_wp2
                go_roundw
                case rel => exact ⟨j + 1, by omega, by omega, by go_num, by rw [Hm.out], r0, r1, r2, (by repeat (first | with_reducible exact Below.refl _ _ | with_reducible assumption | with_reducible refine Below.drew ?_ | with_reducible refine below_drewN ?_ _ | with_reducible refine Below.setCell ?_ (by first | exact Nat.le_refl _ | (simp; done) | (simp; omega) | (dsimp only; omega)) _ | with_reducible refine Below.alloc ?_ (by first | exact Nat.le_refl _ | (simp; done) | (simp; omega) | (simp at *; omega)) _ | with_reducible refine bstep ?_ (by assumption)))⟩
                case measure => simp [intOf]; omega
              · have n4a : ((0 : Int) == b) = false := beq_eq_false_iff_ne.2 n4
                have n4b : ((0 : Int) != b) = true := bne_iff_ne.2 n4
                go_wp2
                go_roundw
                case rel => exact ⟨j + 1, by omega, by omega, by go_num, by rw [Hm.out], r0, r1, r2, (by repeat (first | with_reducible exact Below.refl _ _ | with_reducible assumption | with_reducible refine Below.drew ?_ | with_reducible refine below_drewN ?_ _ | with_reducible refine Below.setCell ?_ (by first | exact Nat.le_refl _ | (simp; done) | (simp; omega) | (dsimp only; omega)) _ | with_reducible refine Below.alloc ?_ (by first | exact Nat.le_refl _ | (simp; done) | (simp; omega) | (simp at *; omega)) _ | with_reducible refine bstep ?_ (by assumption)))⟩
                case measure => simp [intOf]; omega
              · have n4a : (a == 0) = false := beq_eq_false_iff_ne.2 n4
                have n4b : (a != 0) = true := bne_iff_ne.2 n4
                go_wp2
                go_roundw
                case rel => exact ⟨j + 1, by omega, by omega, by go_num, by rw [Hm.out], r0, r1, r2, (by repeat (first | with_reducible exact Below.refl _ _ | with_reducible assumption | with_reducible refine Below.drew ?_ | with_reducible refine below_drewN ?_ _ | with_reducible refine Below.setCell ?_ (by first | exact Nat.le_refl _ | (simp; done) | (simp; omega) | (dsimp only; omega)) _ | with_reducible refine Below.alloc ?_ (by first | exact Nat.le_refl _ | (simp; done) | (simp; omega) | (simp at *; omega)) _ | with_reducible refine bstep ?_ (by assumption)))⟩
                case measure => simp [intOf]; omega
            · have hp3 : ¬ (p : Int) < (Lm.length : Int) := by omega
              rcases hv with rfl | ⟨rfl, rfl⟩ | ⟨rfl, rfl, rfl⟩ | ⟨rfl, rfl, n4, rfl⟩ | ⟨rfl, rfl, n4, n5, rfl⟩
              · go_wp2
                go_roundw
                case rel => exact ⟨j + 1, by omega, by omega, by go_num, by rw [Hm.out], r0, r1, r2, (by repeat (first | with_reducible exact Below.refl _ _ | with_reducible assumption | with_reducible refine Below.drew ?_ | with_reducible refine below_drewN ?_ _ | with_reducible refine Below.setCell ?_ (by first | exact Nat.le_refl _ | (simp; done) | (simp; omega) | (dsimp only; omega)) _ | with_reducible refine Below.alloc ?_ (by first | exact Nat.le_refl _ | (simp; done) | (simp; omega) | (simp at *; omega)) _ | with_reducible refine bstep ?_ (by assumption)))⟩
                case measure => simp [intOf]; omega
              · go_wp2
                go_roundw
                case rel => exact ⟨j + 1, by omega, by omega, by go_num, by rw [Hm.out], r0, r1, r2, (by repeat (first | with_reducible exact Below.refl _ _ | with_reducible assumption | with_reducible refine Below.drew ?_ | with_reducible refine below_drewN ?_ _ | with_reducible refine Below.setCell ?_ (by first | exact Nat.le_refl _ | (simp; done) | (simp; omega) | (dsimp only; omega)) _ | with_reducible refine Below.alloc ?_ (by first | exact Nat.le_refl _ | (simp; done) | (simp; omega) | (simp at *; omega)) _ | with_reducible refine bstep ?_ (by assumption)))⟩
                case measure => simp [intOf]; omega
              · go_wp2
                go_roundw
                case rel => exact ⟨j + 1, by omega, by omega, by go_num, by rw [Hm.out], r0, r1, r2, (by repeat (first | with_reducible exact Below.refl _ _ | with_reducible assumption | with_reducible refine Below.drew ?_ | with_reducible refine below_drewN ?_ _ | with_reducible refine Below.setCell ?_ (by first | exact Nat.le_refl _ | (simp; done) | (simp; omega) | (dsimp only; omega)) _ | with_reducible refine Below.alloc ?_ (by first | exact Nat.le_refl _ | (simp; done) | (simp; omega) | (simp at *; omega)) _ | with_reducible refine bstep ?_ (by assumption)))⟩
                case measure => simp [intOf]; omega
              · have n4a : ((0 : Int) == b) = false := beq_eq_false_iff_ne.2 n4
                have n4b : ((0 : Int) != b) = true := bne_iff_ne.2 n4
                go_wp2
                go_roundw
                case rel => exact ⟨j + 1, by omega, by omega, by go_num, by rw [Hm.out], r0, r1, r2, (by repeat (first | with_reducible exact Below.refl _ _ | with_reducible assumption | with_reducible refine Below.drew ?_ | with_reducible refine below_drewN ?_ _ | with_reducible refine Below.setCell ?_ (by first | exact Nat.le_refl _ | (simp; done) | (simp; omega) | (dsimp only; omega)) _ | with_reducible refine Below.alloc ?_ (by first | exact Nat.le_refl _ | (simp; done) | (simp; omega) | (simp at *; omega)) _ | with_reducible refine bstep ?_ (by assumption)))⟩
                case measure => simp [intOf]; omega
              · have n4a : (a == 0) = false := beq_eq_false_iff_ne.2 n4
                have n4b : (a != 0) = true := bne_iff_ne.2 n4
                go_wp2
                go_roundw
                case rel => exact ⟨j + 1, by omega, by omega, by go_num, by rw [Hm.out], r0, r1, r2, (by repeat (first | with_reducible exact Below.refl _ _ | with_reducible assumption | with_reducible refine Below.drew ?_ | with_reducible refine below_drewN ?_ _ | with_reducible refine Below.setCell ?_ (by first | exact Nat.le_refl _ | (simp; done) | (simp; omega) | (dsimp only; omega)) _ | with_reducible refine Below.alloc ?_ (by first | exact Nat.le_refl _ | (simp; done) | (simp; omega) | (simp at *; omega)) _ | with_reducible refine bstep ?_ (by assumption)))⟩
                case measure => simp [intOf]; omega
    · obtain rfl : n2 = j + 1 := by omega
      have hi1 : ¬ (j : Int) + 1 < ((j + 1 : Nat) : Int) := by omega
      have hi2 : ¬ (j : Int) + 1 < (j : Int) + 1 := by omega
      have hpe : p = Lm.length := by rw [hp, HL.out, show j + 1 - 2 = k by omega]
      subst hpe
      go_wp2
      go_ret
      exact ⟨rfl, HB1.out.trans ((bstep HB3.out hbl).mono hz1)⟩

set_option maxRecDepth 100000 in
theorem FnManoeuvres_lifted (os : Os) (started : os.Started) (H : Type) (enc : TypeId × Value → H) :
    ReturnsInHanded {} Try.checked os 3 .any (Rows.fnManoeuvresSpec.pre6 enc Try.prog Try.f3 Rows.fnManoeuvresRow.domain false) (Rows.fnManoeuvresSpec.post enc Try.prog Try.f3 false true false false) := by
  refine returnsInHanded_of_change (C := Try.checked) Try.own started (by as_aux_lemma => kernel_rfl) Try.func3
    (ChangeSpec.witness6 (enc := enc) (C := Try.checked) false ⟨#[], #[.slice none 0 0], []⟩ 8 (by as_aux_lemma => kernel_rfl) (by as_aux_lemma => kernel_rfl) (by as_aux_lemma => kernel_rfl) (by as_aux_lemma => kernel_rfl)) ?_
  intro W base args ds gs before hval0 hW _ _
  have hval : ∀ (j : Nat) t v, Try.f3.params[j]? = some t → args[j]? = some v → Value.okWide Try.prog W .any base t v := hval0
  have hW' := hW
  obtain ⟨p, q, hA0, hV, rfl, _, _⟩ := hW
  have hA : DataW.TrodAll enc Try.prog W 0 (fun _ => true) true Try.f3.params.toList args.toList ds p := hA0
  rw [Try.params3] at hA hval
  obtain ⟨v0, vs0, d0, ds0, p0, q0, hargs, rfl, rfl, h0, r0⟩ := trodAll_cons hA
  obtain ⟨rfl, rfl, rfl⟩ := trodAll_nil r0
  obtain rfl : args = #[v0] := by cases args; simp_all
  obtain ⟨so0, n0, cp0, B0, rfl, hl0, hr0, hB0⟩ := op_bytes (hval 0 22 v0 rfl rfl) h0
  obtain ⟨rfl, rfl⟩ := trodVars_none hV
  refine (laws_FnManoeuvres so0 n0 cp0 B0 W hl0 hr0 hB0).mono fun e W1 ⟨he, hb⟩ => ⟨_, he, ?_⟩
  exact law_post Try.laidOut (by as_aux_lemma => kernel_rfl) Try.underlying4 rfl rfl hW' rfl rfl rfl hb
set_option maxHeartbeats 8000000 in
theorem FnManoeuvres_closed : joinedFacts Try.prog 3 Try.f3 Rows.fnManoeuvresSpec Rows.fnManoeuvresRow = true := by
  simp only [joinedFacts, Bool.and_eq_true, Try.laidOut, Try.mapsRowed, Try.stopsNone, Try.stopKnobsNone, Try.plainKeysIs, Try.stopsHeardIs, Try.mayEnterIs, Try.liftsFinalIs, Try.makeIs, and_true, true_and]
  repeat' (with_reducible refine And.intro ?_ ?_)
  all_goals (as_aux_lemma => kernel_rfl)
set_option maxHeartbeats 8000000 in
/-- FnManoeuvres: whatever the input, the law returns true, and the input reads as it did. -/
theorem FnManoeuvres_holds : Rows.FnManoeuvresSaid :=
  OpenClaim.holds_of_wide 3 Try.f3 rfl rfl rfl rfl rfl rfl rfl ⟨rfl, rfl, rfl, rfl, rfl⟩ rfl rfl rfl rfl rfl (by as_aux_lemma => kernel_rfl) Try.func3
    FnManoeuvres_closed
    (of_decide_eq_true (by as_aux_lemma => kernel_rfl)) (by unfold Func.isWrapper; rw [if_neg (of_decide_eq_false (by as_aux_lemma => kernel_rfl))]; exact ⟨rfl, rfl⟩)
    (fun os started H enc _ => FnManoeuvres_lifted os started H enc)
#print axioms FnManoeuvres_holds
end Go.Proofs.Ytnmnibpcklcmgaa
