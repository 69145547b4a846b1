/- Walks: a ruling and a room are read from their texts. -/
import Derived.Test.YtnmnibpcklcmgaaDoorRt
namespace Go.Proofs.YtnmnibpcklcmgaaDoor
open Go.RowKit

/-- The first of n that is hit. -/
def fstQ (hit : Nat → Bool) : Nat → Option Nat
  | 0 => none
  | n + 1 => match fstQ hit n with
    | some q => some q
    | none => if hit n = true then some n else none
theorem fstQ_no {hit : Nat → Bool} {n : Nat} (h : fstQ hit n = none) (h2 : hit n = false) : fstQ hit (n + 1) = none := by simp only [fstQ, h, h2]; rfl
theorem fstQ_yes {hit : Nat → Bool} {n : Nat} (h : fstQ hit n = none) (h2 : hit n = true) : ∀ m, n < m → fstQ hit m = some n := by
  intro m
  induction m with
  | zero => intro h; omega
  | succ m ih =>
    intro hm
    by_cases e : n = m
    · subst e; simp only [fstQ, h, h2]; rfl
    · simp only [fstQ, ih (by omega)]
/-- Place q of the table of texts is s. -/
def hitT (T : Nat → Nat → ByteArray) (s : ByteArray) (q : Nat) : Bool := decide (T (q / 5) (q % 5) ≠ ⟨#[]⟩ ∧ T (q / 5) (q % 5) = s)
theorem hitT_t {T : Nat → Nat → ByteArray} {s : ByteArray} {k m : Nat} (hm : m < 5) (h1 : T k m ≠ ⟨#[]⟩) (h2 : T k m = s) : hitT T s (5 * k + m) = true := by
  have e1 : (5 * k + m) / 5 = k := by omega
  have e2 : (5 * k + m) % 5 = m := by omega
  unfold hitT; rw [e1, e2]; exact decide_eq_true ⟨h1, h2⟩
theorem hitT_f {T : Nat → Nat → ByteArray} {s : ByteArray} {k m : Nat} (hm : m < 5) (h : T k m = ⟨#[]⟩ ∨ T k m ≠ s) : hitT T s (5 * k + m) = false := by
  have e1 : (5 * k + m) / 5 = k := by omega
  have e2 : (5 * k + m) % 5 = m := by omega
  unfold hitT; rw [e1, e2]; exact decide_eq_false (fun k => h.elim k.1 (fun h => h k.2))
def rdG (o : Option Nat) : Int := match o with
  | some q => ((q / 5 : Nat) : Int)
  | none => 0
def rdR (b : Nat) (o : Option Nat) : Int := match o with
  | some q => ((q % 5 + b : Nat) : Int)
  | none => 0
theorem bs_beq (a b : ByteArray) : (a.toList == b.toList) = decide (a = b) := by
  rw [ByteArray.toList_eq, ByteArray.toList_eq, Bool.eq_iff_iff]
  simp only [beq_iff_eq, decide_eq_true_eq]
  exact ⟨fun h => ByteArray.ext (Array.toList_inj.1 h), fun h => by rw [h]⟩
theorem bs_emp (a : ByteArray) : a.toList.isEmpty = decide (a = ⟨#[]⟩) := by
  rw [ByteArray.toList_eq, Bool.eq_iff_iff]
  simp only [List.isEmpty_iff, decide_eq_true_eq]
  exact ⟨fun h => ByteArray.ext (Array.toList_inj.1 (by rw [h])), fun h => by rw [h]⟩
def rulT (k m : Nat) : ByteArray := rulTx (k : Int) ((m + 1 : Nat) : Int)
def romT (k m : Nat) : ByteArray := romTx (k : Int) (m : Int)

theorem romT_ne {k m : Nat} (h : isRm (k : Int) (m : Int) = true) : romT k m ≠ ⟨#[]⟩ := fun e => by
  have h1 : (romT k m).size = 0 := by rw [e]; rfl
  unfold romT romTx at h1
  rw [if_pos h, ByteArray.size_append, ByteArray.size_append, digT_size] at h1
  omega
set_option maxRecDepth 100000 in
set_option maxHeartbeats 8000000 in
theorem impl_ReadRuling (s : ByteArray) (w : World) : Calls Tryd.prog 16 #[.string s] w fun e w' => e = .returned (.tuple #[.agg #[.int .i64 (rdG (fstQ (hitT rulT s) 15)), .int .i64 (rdR 1 (fstQ (hitT rulT s) 15))], .bool (fstQ (hitT rulT s) 15).isSome]) ∧ Below w.heap.size w w' := by
  go_enter Tryd.func16, Tryd.ntmps16
  go_wp2
  go_loopw [8] (fun i W => ∃ k : Nat, k ≤ 3 ∧ i = .int .i64 (k : Int) ∧ Hid (fstQ (hitT rulT s) (5 * k) = none) ∧ W.cell? ⟨w.heap.size, 0, none⟩ = some (.int .i64 0) ∧ W.cell? ⟨w.heap.size, 1, none⟩ = some (.int .i64 0) ∧ W.frozen? ⟨w.heap.size, 0, none⟩ = false ∧ W.frozen? ⟨w.heap.size, 1, none⟩ = false ∧ Below w.heap.size w W ∧ w.heap.size < W.heap.size) (fun i _ => 3 - (intOf i).toNat)
  case atStart => exact ⟨0, by omega, rfl, hide rfl, by go_simp, by go_simp, by go_simp, by go_simp, (by repeat (first | with_reducible exact Below.refl _ _ | with_reducible assumption | with_reducible refine Below.drew ?_ | with_reducible refine below_drewN ?_ _ | with_reducible refine Below.setCell ?_ (by first | exact Nat.le_refl _ | (simp; done) | (simp; omega) | (dsimp only; omega)) _ | with_reducible refine Below.alloc ?_ (by first | exact Nat.le_refl _ | (simp; done) | (simp; omega) | (simp at *; omega)) _ | with_reducible refine bstep ?_ (by assumption))), by simp⟩
  case round =>
    obtain ⟨k, hk, rfl, Hf, c0, c1, e0, e1, hbl, hz⟩ := hrel
    by_cases hlt : k < 3
    · have hi1 : (k : Int) < 3 := by omega
      have hi3 : (k : Int) ≤ 2 := by omega
      go_wp2
      go_loopw [5] (fun i W => ∃ j : Nat, 1 ≤ j ∧ j ≤ 6 ∧ i = .int .i64 (j : Int) ∧ Hid (fstQ (hitT rulT s) (5 * k + (j - 1)) = none) ∧ W.cell? ⟨w.heap.size, 0, none⟩ = some (.int .i64 0) ∧ W.cell? ⟨w.heap.size, 1, none⟩ = some (.int .i64 0) ∧ W.frozen? ⟨w.heap.size, 0, none⟩ = false ∧ W.frozen? ⟨w.heap.size, 1, none⟩ = false ∧ Below w.heap.size w W ∧ w.heap.size < W.heap.size) (fun i _ => 6 - (intOf i).toNat)
      case atStart => exact ⟨1, by omega, by omega, rfl, Hf, c0, c1, e0, e1, hbl, hz⟩
      case round =>
        clear c0 c1 e0 e1 hbl hz Hf
        obtain ⟨j, hj0, hj, rfl, Hf, c0, c1, e0, e1, hbl, hz⟩ := hrel
        by_cases hlt2 : j < 6
        · have hi2 : (j : Int) ≤ 5 := by omega
          have hi4 : (1 : Int) ≤ (j : Int) := by omega
          obtain ⟨m, hm5, hjm⟩ : ∃ m : Nat, m < 5 ∧ j = m + 1 := ⟨j - 1, by omega, by omega⟩
          subst hjm
          rw [show m + 1 - 1 = m from Nat.add_sub_cancel ..] at Hf
          have K8 := fun W => impl_RulingText (k : Int) ((m + 1 : Nat) : Int) W
          obtain ⟨t9, ht⟩ : ∃ t, t = rulT k m := ⟨_, rfl⟩
          rw [show rulTx (k : Int) ((m + 1 : Nat) : Int) = t9 from ht.symm] at K8
          have K9 := hide K8
          clear K8
          by_cases ht0 : t9 = ⟨#[]⟩
          · have Hn := hide (fstQ_no Hf.out (hitT_f hm5 (.inl (ht ▸ ht0))))
            have hE : t9.toList.isEmpty = true := by rw [bs_emp]; exact decide_eq_true ht0
            clear Hf ht
            generalize hjj : m + 1 = jj at *
            go_wp2_with (go_at_call 11; (with_reducible refine (K9.out _).mono ?_); rintro e w9 ⟨rfl, hb⟩; obtain ⟨hc, hf⟩ := bcell hb; have hz := hb.size; have z0 : w.heap.size < w9.heap.size := (by first | omega | (simp at hz; omega)))
            go_roundw
            case rel => exact ⟨jj + 1, by omega, by omega, by go_num, by rw [show jj + 1 - 1 = m + 1 by omega, ← Nat.add_assoc]; exact Hn, by go_simp, by go_simp, by go_simp, by go_simp, (by repeat (first | with_reducible exact Below.refl _ _ | with_reducible assumption | with_reducible refine Below.drew ?_ | with_reducible refine below_drewN ?_ _ | with_reducible refine Below.setCell ?_ (by first | exact Nat.le_refl _ | (simp; done) | (simp; omega) | (dsimp only; omega)) _ | with_reducible refine Below.alloc ?_ (by first | exact Nat.le_refl _ | (simp; done) | (simp; omega) | (simp at *; omega)) _ | with_reducible refine bstep ?_ (by assumption))), by first | omega | (simp; omega)⟩
            case measure => simp [intOf]; omega
          by_cases ht1 : t9 = s
          · have Hy := hide (fstQ_yes Hf.out (hitT_t hm5 (ht ▸ ht0) (ht ▸ ht1)) 15 (by omega))
            have hG : rdG (fstQ (hitT rulT s) 15) = (k : Int) := by rw [Hy.out]; show (((5 * k + m) / 5 : Nat) : Int) = k; omega
            have hR : rdR 1 (fstQ (hitT rulT s) 15) = ((m + 1 : Nat) : Int) := by rw [Hy.out]; show (((5 * k + m) % 5 + 1 : Nat) : Int) = _; omega
            have hS : (fstQ (hitT rulT s) 15).isSome = true := by rw [Hy.out]; rfl
            have hX : s.toList.isEmpty = false := by rw [bs_emp]; exact decide_eq_false fun k => ht0 (ht1.trans k)
            have hE : t9.toList.isEmpty = false := by rw [bs_emp]; exact decide_eq_false ht0
            have hY : (t9.toList == s.toList) = true := by rw [bs_beq]; exact decide_eq_true ht1
            clear Hf ht Hy
            generalize hjj : m + 1 = jj at *
            clear hjj
            clear ht1 ht0
            go_wp2_with (go_at_call 11; (with_reducible refine (K9.out _).mono ?_); rintro e w9 ⟨rfl, hb⟩; obtain ⟨hc, hf⟩ := bcell hb; have hz := hb.size; have z0 : w.heap.size < w9.heap.size := (by first | omega | (simp at hz; omega)))
            have q0 : w9.cell? ⟨w.heap.size, 0, none⟩ = some (.int .i64 0) := by go_simp
            have q1 : w9.cell? ⟨w.heap.size, 1, none⟩ = some (.int .i64 0) := by go_simp
            have hBx : Below w.heap.size w w9 := (by repeat (first | with_reducible exact Below.refl _ _ | with_reducible assumption | with_reducible refine Below.drew ?_ | with_reducible refine below_drewN ?_ _ | with_reducible refine Below.setCell ?_ (by first | exact Nat.le_refl _ | (simp; done) | (simp; omega) | (dsimp only; omega)) _ | with_reducible refine Below.alloc ?_ (by first | exact Nat.le_refl _ | (simp; done) | (simp; omega) | (simp at *; omega)) _ | with_reducible refine bstep ?_ (by assumption)))
            clear hc hf hb c0 c1
            simp [bodyPost, results, Tryd.results16, go_sem, *]
            exact (by repeat (first | with_reducible exact Below.refl _ _ | with_reducible assumption | with_reducible refine Below.drew ?_ | with_reducible refine below_drewN ?_ _ | with_reducible refine Below.setCell ?_ (by first | exact Nat.le_refl _ | (simp; done) | (simp; omega) | (dsimp only; omega)) _ | with_reducible refine Below.alloc ?_ (by first | exact Nat.le_refl _ | (simp; done) | (simp; omega) | (simp at *; omega)) _ | with_reducible refine bstep ?_ (by assumption)))
          · have Hn := hide (fstQ_no Hf.out (hitT_f hm5 (.inr (ht ▸ ht1))))
            have hE : t9.toList.isEmpty = false := by rw [bs_emp]; exact decide_eq_false ht0
            have hY : (t9.toList == s.toList) = false := by rw [bs_beq]; exact decide_eq_false ht1
            clear Hf ht
            generalize hjj : m + 1 = jj at *
            go_wp2_with (go_at_call 11; (with_reducible refine (K9.out _).mono ?_); rintro e w9 ⟨rfl, hb⟩; obtain ⟨hc, hf⟩ := bcell hb; have hz := hb.size; have z0 : w.heap.size < w9.heap.size := (by first | omega | (simp at hz; omega)))
            go_roundw
            case rel => exact ⟨jj + 1, by omega, by omega, by go_num, by rw [show jj + 1 - 1 = m + 1 by omega, ← Nat.add_assoc]; exact Hn, by go_simp, by go_simp, by go_simp, by go_simp, (by repeat (first | with_reducible exact Below.refl _ _ | with_reducible assumption | with_reducible refine Below.drew ?_ | with_reducible refine below_drewN ?_ _ | with_reducible refine Below.setCell ?_ (by first | exact Nat.le_refl _ | (simp; done) | (simp; omega) | (dsimp only; omega)) _ | with_reducible refine Below.alloc ?_ (by first | exact Nat.le_refl _ | (simp; done) | (simp; omega) | (simp at *; omega)) _ | with_reducible refine bstep ?_ (by assumption))), by first | omega | (simp; omega)⟩
            case measure => simp [intOf]; omega
        · obtain rfl : j = 6 := by omega
          have Hn := hide (show fstQ (hitT rulT s) (5 * (k + 1)) = none by rw [Nat.mul_add]; exact Hf.out)
          go_wp2
          go_roundw
          case rel => exact ⟨k + 1, by omega, by go_num, Hn, c0, c1, e0, e1, hbl, hz⟩
          case measure => simp [intOf]; omega
    · obtain rfl : k = 3 := by omega
      have hG : rdG (fstQ (hitT rulT s) 15) = 0 := by rw [show fstQ (hitT rulT s) 15 = none from Hf.out]; rfl
      have hR : rdR 1 (fstQ (hitT rulT s) 15) = 0 := by rw [show fstQ (hitT rulT s) 15 = none from Hf.out]; rfl
      have hS : (fstQ (hitT rulT s) 15).isSome = false := by rw [show fstQ (hitT rulT s) 15 = none from Hf.out]; rfl
      clear Hf
      go_wp2
      simp [bodyPost, results, Tryd.results16, go_sem, *]
      exact (by repeat (first | with_reducible exact Below.refl _ _ | with_reducible assumption | with_reducible refine Below.drew ?_ | with_reducible refine below_drewN ?_ _ | with_reducible refine Below.setCell ?_ (by first | exact Nat.le_refl _ | (simp; done) | (simp; omega) | (dsimp only; omega)) _ | with_reducible refine Below.alloc ?_ (by first | exact Nat.le_refl _ | (simp; done) | (simp; omega) | (simp at *; omega)) _ | with_reducible refine bstep ?_ (by assumption)))
set_option maxRecDepth 100000 in
set_option maxHeartbeats 8000000 in
theorem spec_ReadRuling (s : ByteArray) (w : World) : Calls Tryd.prog 15 #[.string s] w fun e w' => e = .returned (.tuple #[.agg #[.int .i64 (rdG (fstQ (hitT rulT s) 15)), .int .i64 (rdR 1 (fstQ (hitT rulT s) 15))], .bool (fstQ (hitT rulT s) 15).isSome]) ∧ Below w.heap.size w w' := by
  go_enter Tryd.func15, Tryd.ntmps15
  go_wp2
  go_loopw [4] (fun i W => ∃ k : Nat, k ≤ 3 ∧ i = .int .i64 (k : Int) ∧ Hid (fstQ (hitT rulT s) (5 * k) = none) ∧ W.cell? ⟨w.heap.size, 0, none⟩ = some (.int .i64 0) ∧ W.cell? ⟨w.heap.size, 1, none⟩ = some (.int .i64 0) ∧ W.frozen? ⟨w.heap.size, 0, none⟩ = false ∧ W.frozen? ⟨w.heap.size, 1, none⟩ = false ∧ Below w.heap.size w W ∧ w.heap.size < W.heap.size) (fun i _ => 3 - (intOf i).toNat)
  case atStart => exact ⟨0, by omega, rfl, hide rfl, by go_simp, by go_simp, by go_simp, by go_simp, (by repeat (first | with_reducible exact Below.refl _ _ | with_reducible assumption | with_reducible refine Below.drew ?_ | with_reducible refine below_drewN ?_ _ | with_reducible refine Below.setCell ?_ (by first | exact Nat.le_refl _ | (simp; done) | (simp; omega) | (dsimp only; omega)) _ | with_reducible refine Below.alloc ?_ (by first | exact Nat.le_refl _ | (simp; done) | (simp; omega) | (simp at *; omega)) _ | with_reducible refine bstep ?_ (by assumption))), by simp⟩
  case round =>
    obtain ⟨k, hk, rfl, Hf, c0, c1, e0, e1, hbl, hz⟩ := hrel
    by_cases hlt : k < 3
    · have hi1 : (k : Int) < 3 := by omega
      have hi3 : (k : Int) ≤ 2 := by omega
      go_wp2
      go_loopw [5] (fun i W => ∃ j : Nat, 1 ≤ j ∧ j ≤ 6 ∧ i = .int .i64 (j : Int) ∧ Hid (fstQ (hitT rulT s) (5 * k + (j - 1)) = none) ∧ W.cell? ⟨w.heap.size, 0, none⟩ = some (.int .i64 0) ∧ W.cell? ⟨w.heap.size, 1, none⟩ = some (.int .i64 0) ∧ W.frozen? ⟨w.heap.size, 0, none⟩ = false ∧ W.frozen? ⟨w.heap.size, 1, none⟩ = false ∧ Below w.heap.size w W ∧ w.heap.size < W.heap.size) (fun i _ => 6 - (intOf i).toNat)
      case atStart => exact ⟨1, by omega, by omega, rfl, Hf, c0, c1, e0, e1, hbl, hz⟩
      case round =>
        clear c0 c1 e0 e1 hbl hz Hf
        obtain ⟨j, hj0, hj, rfl, Hf, c0, c1, e0, e1, hbl, hz⟩ := hrel
        by_cases hlt2 : j < 6
        · have hi2 : (j : Int) ≤ 5 := by omega
          have hi4 : (1 : Int) ≤ (j : Int) := by omega
          obtain ⟨m, hm5, hjm⟩ : ∃ m : Nat, m < 5 ∧ j = m + 1 := ⟨j - 1, by omega, by omega⟩
          subst hjm
          rw [show m + 1 - 1 = m from Nat.add_sub_cancel ..] at Hf
          have K8 := fun W => spec_RulingText (k : Int) ((m + 1 : Nat) : Int) W
          obtain ⟨t9, ht⟩ : ∃ t, t = rulT k m := ⟨_, rfl⟩
          rw [show rulTx (k : Int) ((m + 1 : Nat) : Int) = t9 from ht.symm] at K8
          have K9 := hide K8
          clear K8
          by_cases ht0 : t9 = ⟨#[]⟩
          · have Hn := hide (fstQ_no Hf.out (hitT_f hm5 (.inl (ht ▸ ht0))))
            have hE : t9.toList.isEmpty = true := by rw [bs_emp]; exact decide_eq_true ht0
            have hX : s.toList.isEmpty = true ∨ s.toList.isEmpty = false ∧ (t9.toList == s.toList) = false := by
              rw [bs_emp, bs_beq]
              by_cases e : s = ⟨#[]⟩
              · exact .inl (decide_eq_true e)
              · exact .inr ⟨decide_eq_false e, decide_eq_false fun k => e (k ▸ ht0)⟩
            clear Hf ht
            generalize hjj : m + 1 = jj at *
            rcases hX with hX | ⟨hX, hY⟩
            all_goals
              go_wp2_with (go_at_call 9; (with_reducible refine (K9.out _).mono ?_); rintro e w9 ⟨rfl, hb⟩; obtain ⟨hc, hf⟩ := bcell hb; have hz := hb.size; have z0 : w.heap.size < w9.heap.size := (by first | omega | (simp at hz; omega)))
              go_roundw
              case rel => exact ⟨jj + 1, by omega, by omega, by go_num, by rw [show jj + 1 - 1 = m + 1 by omega, ← Nat.add_assoc]; exact Hn, by go_simp, by go_simp, by go_simp, by go_simp, (by repeat (first | with_reducible exact Below.refl _ _ | with_reducible assumption | with_reducible refine Below.drew ?_ | with_reducible refine below_drewN ?_ _ | with_reducible refine Below.setCell ?_ (by first | exact Nat.le_refl _ | (simp; done) | (simp; omega) | (dsimp only; omega)) _ | with_reducible refine Below.alloc ?_ (by first | exact Nat.le_refl _ | (simp; done) | (simp; omega) | (simp at *; omega)) _ | with_reducible refine bstep ?_ (by assumption))), by first | omega | (simp; omega)⟩
              case measure => simp [intOf]; omega
          by_cases ht1 : t9 = s
          · have Hy := hide (fstQ_yes Hf.out (hitT_t hm5 (ht ▸ ht0) (ht ▸ ht1)) 15 (by omega))
            have hG : rdG (fstQ (hitT rulT s) 15) = (k : Int) := by rw [Hy.out]; show (((5 * k + m) / 5 : Nat) : Int) = k; omega
            have hR : rdR 1 (fstQ (hitT rulT s) 15) = ((m + 1 : Nat) : Int) := by rw [Hy.out]; show (((5 * k + m) % 5 + 1 : Nat) : Int) = _; omega
            have hS : (fstQ (hitT rulT s) 15).isSome = true := by rw [Hy.out]; rfl
            have hX : s.toList.isEmpty = false := by rw [bs_emp]; exact decide_eq_false fun k => ht0 (ht1.trans k)
            have hE : t9.toList.isEmpty = false := by rw [bs_emp]; exact decide_eq_false ht0
            have hY : (t9.toList == s.toList) = true := by rw [bs_beq]; exact decide_eq_true ht1
            clear Hf ht Hy
            generalize hjj : m + 1 = jj at *
            clear hjj
            clear ht1 ht0
            go_wp2_with (go_at_call 9; (with_reducible refine (K9.out _).mono ?_); rintro e w9 ⟨rfl, hb⟩; obtain ⟨hc, hf⟩ := bcell hb; have hz := hb.size; have z0 : w.heap.size < w9.heap.size := (by first | omega | (simp at hz; omega)))
            have q0 : w9.cell? ⟨w.heap.size, 0, none⟩ = some (.int .i64 0) := by go_simp
            have q1 : w9.cell? ⟨w.heap.size, 1, none⟩ = some (.int .i64 0) := by go_simp
            have hBx : Below w.heap.size w w9 := (by repeat (first | with_reducible exact Below.refl _ _ | with_reducible assumption | with_reducible refine Below.drew ?_ | with_reducible refine below_drewN ?_ _ | with_reducible refine Below.setCell ?_ (by first | exact Nat.le_refl _ | (simp; done) | (simp; omega) | (dsimp only; omega)) _ | with_reducible refine Below.alloc ?_ (by first | exact Nat.le_refl _ | (simp; done) | (simp; omega) | (simp at *; omega)) _ | with_reducible refine bstep ?_ (by assumption)))
            clear hc hf hb c0 c1
            simp [bodyPost, results, Tryd.results15, go_sem, *]
            exact (by repeat (first | with_reducible exact Below.refl _ _ | with_reducible assumption | with_reducible refine Below.drew ?_ | with_reducible refine below_drewN ?_ _ | with_reducible refine Below.setCell ?_ (by first | exact Nat.le_refl _ | (simp; done) | (simp; omega) | (dsimp only; omega)) _ | with_reducible refine Below.alloc ?_ (by first | exact Nat.le_refl _ | (simp; done) | (simp; omega) | (simp at *; omega)) _ | with_reducible refine bstep ?_ (by assumption)))
          · have Hn := hide (fstQ_no Hf.out (hitT_f hm5 (.inr (ht ▸ ht1))))
            have hE : t9.toList.isEmpty = false := by rw [bs_emp]; exact decide_eq_false ht0
            have hY : (t9.toList == s.toList) = false := by rw [bs_beq]; exact decide_eq_false ht1
            rcases b2 s.toList.isEmpty with hX | hX
            all_goals
              clear Hf ht
              generalize hjj : m + 1 = jj at *
              go_wp2_with (go_at_call 9; (with_reducible refine (K9.out _).mono ?_); rintro e w9 ⟨rfl, hb⟩; obtain ⟨hc, hf⟩ := bcell hb; have hz := hb.size; have z0 : w.heap.size < w9.heap.size := (by first | omega | (simp at hz; omega)))
              go_roundw
              case rel => exact ⟨jj + 1, by omega, by omega, by go_num, by rw [show jj + 1 - 1 = m + 1 by omega, ← Nat.add_assoc]; exact Hn, by go_simp, by go_simp, by go_simp, by go_simp, (by repeat (first | with_reducible exact Below.refl _ _ | with_reducible assumption | with_reducible refine Below.drew ?_ | with_reducible refine below_drewN ?_ _ | with_reducible refine Below.setCell ?_ (by first | exact Nat.le_refl _ | (simp; done) | (simp; omega) | (dsimp only; omega)) _ | with_reducible refine Below.alloc ?_ (by first | exact Nat.le_refl _ | (simp; done) | (simp; omega) | (simp at *; omega)) _ | with_reducible refine bstep ?_ (by assumption))), by first | omega | (simp; omega)⟩
              case measure => simp [intOf]; omega
        · obtain rfl : j = 6 := by omega
          have Hn := hide (show fstQ (hitT rulT s) (5 * (k + 1)) = none by rw [Nat.mul_add]; exact Hf.out)
          go_wp2
          go_roundw
          case rel => exact ⟨k + 1, by omega, by go_num, Hn, c0, c1, e0, e1, hbl, hz⟩
          case measure => simp [intOf]; omega
    · obtain rfl : k = 3 := by omega
      have hG : rdG (fstQ (hitT rulT s) 15) = 0 := by rw [show fstQ (hitT rulT s) 15 = none from Hf.out]; rfl
      have hR : rdR 1 (fstQ (hitT rulT s) 15) = 0 := by rw [show fstQ (hitT rulT s) 15 = none from Hf.out]; rfl
      have hS : (fstQ (hitT rulT s) 15).isSome = false := by rw [show fstQ (hitT rulT s) 15 = none from Hf.out]; rfl
      clear Hf
      go_wp2
      simp [bodyPost, results, Tryd.results15, go_sem, *]
      exact (by repeat (first | with_reducible exact Below.refl _ _ | with_reducible assumption | with_reducible refine Below.drew ?_ | with_reducible refine below_drewN ?_ _ | with_reducible refine Below.setCell ?_ (by first | exact Nat.le_refl _ | (simp; done) | (simp; omega) | (dsimp only; omega)) _ | with_reducible refine Below.alloc ?_ (by first | exact Nat.le_refl _ | (simp; done) | (simp; omega) | (simp at *; omega)) _ | with_reducible refine bstep ?_ (by assumption)))
set_option maxRecDepth 100000 in
set_option maxHeartbeats 8000000 in
theorem impl_ReadRoom (s : ByteArray) (w : World) : Calls Tryd.prog 19 #[.string s] w fun e w' => e = .returned (.tuple #[.agg #[.int .i64 (rdG (fstQ (hitT romT s) 15)), .int .i64 (rdR 0 (fstQ (hitT romT s) 15))], .bool (fstQ (hitT romT s) 15).isSome]) ∧ Below w.heap.size w w' := by
  go_enter Tryd.func19, Tryd.ntmps19
  go_wp2
  go_loopw [8] (fun i W => ∃ k : Nat, k ≤ 3 ∧ i = .int .i64 (k : Int) ∧ Hid (fstQ (hitT romT s) (5 * k) = none) ∧ W.cell? ⟨w.heap.size, 0, none⟩ = some (.int .i64 0) ∧ W.cell? ⟨w.heap.size, 1, none⟩ = some (.int .i64 0) ∧ W.frozen? ⟨w.heap.size, 0, none⟩ = false ∧ W.frozen? ⟨w.heap.size, 1, none⟩ = false ∧ Below w.heap.size w W ∧ w.heap.size < W.heap.size) (fun i _ => 3 - (intOf i).toNat)
  case atStart => exact ⟨0, by omega, rfl, hide rfl, by go_simp, by go_simp, by go_simp, by go_simp, (by repeat (first | with_reducible exact Below.refl _ _ | with_reducible assumption | with_reducible refine Below.drew ?_ | with_reducible refine below_drewN ?_ _ | with_reducible refine Below.setCell ?_ (by first | exact Nat.le_refl _ | (simp; done) | (simp; omega) | (dsimp only; omega)) _ | with_reducible refine Below.alloc ?_ (by first | exact Nat.le_refl _ | (simp; done) | (simp; omega) | (simp at *; omega)) _ | with_reducible refine bstep ?_ (by assumption))), by simp⟩
  case round =>
    obtain ⟨k, hk, rfl, Hf, c0, c1, e0, e1, hbl, hz⟩ := hrel
    by_cases hlt : k < 3
    · have hi1 : (k : Int) < 3 := by omega
      have hi3 : (k : Int) ≤ 2 := by omega
      go_wp2
      go_loopw [5] (fun i W => ∃ j : Nat, 0 ≤ j ∧ j ≤ 5 ∧ i = .int .i64 (j : Int) ∧ Hid (fstQ (hitT romT s) (5 * k + (j - 0)) = none) ∧ W.cell? ⟨w.heap.size, 0, none⟩ = some (.int .i64 0) ∧ W.cell? ⟨w.heap.size, 1, none⟩ = some (.int .i64 0) ∧ W.frozen? ⟨w.heap.size, 0, none⟩ = false ∧ W.frozen? ⟨w.heap.size, 1, none⟩ = false ∧ Below w.heap.size w W ∧ w.heap.size < W.heap.size) (fun i _ => 5 - (intOf i).toNat)
      case atStart => exact ⟨0, by omega, by omega, rfl, Hf, c0, c1, e0, e1, hbl, hz⟩
      case round =>
        clear c0 c1 e0 e1 hbl hz Hf
        obtain ⟨j, hj0, hj, rfl, Hf, c0, c1, e0, e1, hbl, hz⟩ := hrel
        by_cases hlt2 : j < 5
        · have hi2 : (j : Int) ≤ 4 := by omega
          have hi4 : (0 : Int) ≤ (j : Int) := by omega
          obtain ⟨m, hm5, hjm⟩ : ∃ m : Nat, m < 5 ∧ m = j := ⟨j, by omega, rfl⟩
          subst hjm
          rw [Nat.sub_zero] at Hf
          have K8 := fun W => impl_RoomText (k : Int) (m : Int) W
          obtain ⟨t9, ht⟩ : ∃ t, t = romT k m := ⟨_, rfl⟩
          rw [show romTx (k : Int) (m : Int) = t9 from ht.symm] at K8
          have K9 := hide K8
          clear K8
          by_cases ht0 : t9 = ⟨#[]⟩
          · have Hn := hide (fstQ_no Hf.out (hitT_f hm5 (.inl (ht ▸ ht0))))
            have hE : t9.toList.isEmpty = true := by rw [bs_emp]; exact decide_eq_true ht0
            clear Hf ht
            go_wp2_with (go_at_call 14; (with_reducible refine (K9.out _).mono ?_); rintro e w9 ⟨rfl, hb⟩; obtain ⟨hc, hf⟩ := bcell hb; have hz := hb.size; have z0 : w.heap.size < w9.heap.size := (by first | omega | (simp at hz; omega)))
            go_roundw
            case rel => exact ⟨m + 1, by omega, by omega, by go_num, by rw [show m + 1 - 0 = m + 1 by omega, ← Nat.add_assoc]; exact Hn, by go_simp, by go_simp, by go_simp, by go_simp, (by repeat (first | with_reducible exact Below.refl _ _ | with_reducible assumption | with_reducible refine Below.drew ?_ | with_reducible refine below_drewN ?_ _ | with_reducible refine Below.setCell ?_ (by first | exact Nat.le_refl _ | (simp; done) | (simp; omega) | (dsimp only; omega)) _ | with_reducible refine Below.alloc ?_ (by first | exact Nat.le_refl _ | (simp; done) | (simp; omega) | (simp at *; omega)) _ | with_reducible refine bstep ?_ (by assumption))), by first | omega | (simp; omega)⟩
            case measure => simp [intOf]; omega
          by_cases ht1 : t9 = s
          · have Hy := hide (fstQ_yes Hf.out (hitT_t hm5 (ht ▸ ht0) (ht ▸ ht1)) 15 (by omega))
            have hG : rdG (fstQ (hitT romT s) 15) = (k : Int) := by rw [Hy.out]; show (((5 * k + m) / 5 : Nat) : Int) = k; omega
            have hR : rdR 0 (fstQ (hitT romT s) 15) = (m : Int) := by rw [Hy.out]; show (((5 * k + m) % 5 + 0 : Nat) : Int) = _; omega
            have hS : (fstQ (hitT romT s) 15).isSome = true := by rw [Hy.out]; rfl
            have hX : s.toList.isEmpty = false := by rw [bs_emp]; exact decide_eq_false fun k => ht0 (ht1.trans k)
            have hE : t9.toList.isEmpty = false := by rw [bs_emp]; exact decide_eq_false ht0
            have hY : (t9.toList == s.toList) = true := by rw [bs_beq]; exact decide_eq_true ht1
            clear Hf ht Hy
            clear ht1 ht0
            go_wp2_with (go_at_call 14; (with_reducible refine (K9.out _).mono ?_); rintro e w9 ⟨rfl, hb⟩; obtain ⟨hc, hf⟩ := bcell hb; have hz := hb.size; have z0 : w.heap.size < w9.heap.size := (by first | omega | (simp at hz; omega)))
            have q0 : w9.cell? ⟨w.heap.size, 0, none⟩ = some (.int .i64 0) := by go_simp
            have q1 : w9.cell? ⟨w.heap.size, 1, none⟩ = some (.int .i64 0) := by go_simp
            have hBx : Below w.heap.size w w9 := (by repeat (first | with_reducible exact Below.refl _ _ | with_reducible assumption | with_reducible refine Below.drew ?_ | with_reducible refine below_drewN ?_ _ | with_reducible refine Below.setCell ?_ (by first | exact Nat.le_refl _ | (simp; done) | (simp; omega) | (dsimp only; omega)) _ | with_reducible refine Below.alloc ?_ (by first | exact Nat.le_refl _ | (simp; done) | (simp; omega) | (simp at *; omega)) _ | with_reducible refine bstep ?_ (by assumption)))
            clear hc hf hb c0 c1
            simp [bodyPost, results, Tryd.results19, go_sem, *]
            exact (by repeat (first | with_reducible exact Below.refl _ _ | with_reducible assumption | with_reducible refine Below.drew ?_ | with_reducible refine below_drewN ?_ _ | with_reducible refine Below.setCell ?_ (by first | exact Nat.le_refl _ | (simp; done) | (simp; omega) | (dsimp only; omega)) _ | with_reducible refine Below.alloc ?_ (by first | exact Nat.le_refl _ | (simp; done) | (simp; omega) | (simp at *; omega)) _ | with_reducible refine bstep ?_ (by assumption)))
          · have Hn := hide (fstQ_no Hf.out (hitT_f hm5 (.inr (ht ▸ ht1))))
            have hE : t9.toList.isEmpty = false := by rw [bs_emp]; exact decide_eq_false ht0
            have hY : (t9.toList == s.toList) = false := by rw [bs_beq]; exact decide_eq_false ht1
            clear Hf ht
            go_wp2_with (go_at_call 14; (with_reducible refine (K9.out _).mono ?_); rintro e w9 ⟨rfl, hb⟩; obtain ⟨hc, hf⟩ := bcell hb; have hz := hb.size; have z0 : w.heap.size < w9.heap.size := (by first | omega | (simp at hz; omega)))
            go_roundw
            case rel => exact ⟨m + 1, by omega, by omega, by go_num, by rw [show m + 1 - 0 = m + 1 by omega, ← Nat.add_assoc]; exact Hn, by go_simp, by go_simp, by go_simp, by go_simp, (by repeat (first | with_reducible exact Below.refl _ _ | with_reducible assumption | with_reducible refine Below.drew ?_ | with_reducible refine below_drewN ?_ _ | with_reducible refine Below.setCell ?_ (by first | exact Nat.le_refl _ | (simp; done) | (simp; omega) | (dsimp only; omega)) _ | with_reducible refine Below.alloc ?_ (by first | exact Nat.le_refl _ | (simp; done) | (simp; omega) | (simp at *; omega)) _ | with_reducible refine bstep ?_ (by assumption))), by first | omega | (simp; omega)⟩
            case measure => simp [intOf]; omega
        · obtain rfl : j = 5 := by omega
          have Hn := hide (show fstQ (hitT romT s) (5 * (k + 1)) = none by rw [Nat.mul_add]; exact Hf.out)
          go_wp2
          go_roundw
          case rel => exact ⟨k + 1, by omega, by go_num, Hn, c0, c1, e0, e1, hbl, hz⟩
          case measure => simp [intOf]; omega
    · obtain rfl : k = 3 := by omega
      have hG : rdG (fstQ (hitT romT s) 15) = 0 := by rw [show fstQ (hitT romT s) 15 = none from Hf.out]; rfl
      have hR : rdR 0 (fstQ (hitT romT s) 15) = 0 := by rw [show fstQ (hitT romT s) 15 = none from Hf.out]; rfl
      have hS : (fstQ (hitT romT s) 15).isSome = false := by rw [show fstQ (hitT romT s) 15 = none from Hf.out]; rfl
      clear Hf
      go_wp2
      simp [bodyPost, results, Tryd.results19, go_sem, *]
      exact (by repeat (first | with_reducible exact Below.refl _ _ | with_reducible assumption | with_reducible refine Below.drew ?_ | with_reducible refine below_drewN ?_ _ | with_reducible refine Below.setCell ?_ (by first | exact Nat.le_refl _ | (simp; done) | (simp; omega) | (dsimp only; omega)) _ | with_reducible refine Below.alloc ?_ (by first | exact Nat.le_refl _ | (simp; done) | (simp; omega) | (simp at *; omega)) _ | with_reducible refine bstep ?_ (by assumption)))
set_option maxRecDepth 100000 in
set_option maxHeartbeats 8000000 in
theorem spec_ReadRoom (s : ByteArray) (w : World) : Calls Tryd.prog 18 #[.string s] w fun e w' => e = .returned (.tuple #[.agg #[.int .i64 (rdG (fstQ (hitT romT s) 15)), .int .i64 (rdR 0 (fstQ (hitT romT s) 15))], .bool (fstQ (hitT romT s) 15).isSome]) ∧ Below w.heap.size w w' := by
  go_enter Tryd.func18, Tryd.ntmps18
  go_wp2
  go_loopw [4] (fun i W => ∃ k : Nat, k ≤ 3 ∧ i = .int .i64 (k : Int) ∧ Hid (fstQ (hitT romT s) (5 * k) = none) ∧ W.cell? ⟨w.heap.size, 0, none⟩ = some (.int .i64 0) ∧ W.cell? ⟨w.heap.size, 1, none⟩ = some (.int .i64 0) ∧ W.frozen? ⟨w.heap.size, 0, none⟩ = false ∧ W.frozen? ⟨w.heap.size, 1, none⟩ = false ∧ Below w.heap.size w W ∧ w.heap.size < W.heap.size) (fun i _ => 3 - (intOf i).toNat)
  case atStart => exact ⟨0, by omega, rfl, hide rfl, by go_simp, by go_simp, by go_simp, by go_simp, (by repeat (first | with_reducible exact Below.refl _ _ | with_reducible assumption | with_reducible refine Below.drew ?_ | with_reducible refine below_drewN ?_ _ | with_reducible refine Below.setCell ?_ (by first | exact Nat.le_refl _ | (simp; done) | (simp; omega) | (dsimp only; omega)) _ | with_reducible refine Below.alloc ?_ (by first | exact Nat.le_refl _ | (simp; done) | (simp; omega) | (simp at *; omega)) _ | with_reducible refine bstep ?_ (by assumption))), by simp⟩
  case round =>
    obtain ⟨k, hk, rfl, Hf, c0, c1, e0, e1, hbl, hz⟩ := hrel
    by_cases hlt : k < 3
    · have hi1 : (k : Int) < 3 := by omega
      have hi3 : (k : Int) ≤ 2 := by omega
      go_wp2
      go_loopw [5] (fun i W => ∃ j : Nat, 0 ≤ j ∧ j ≤ 5 ∧ i = .int .i64 (j : Int) ∧ Hid (fstQ (hitT romT s) (5 * k + (j - 0)) = none) ∧ W.cell? ⟨w.heap.size, 0, none⟩ = some (.int .i64 0) ∧ W.cell? ⟨w.heap.size, 1, none⟩ = some (.int .i64 0) ∧ W.frozen? ⟨w.heap.size, 0, none⟩ = false ∧ W.frozen? ⟨w.heap.size, 1, none⟩ = false ∧ Below w.heap.size w W ∧ w.heap.size < W.heap.size) (fun i _ => 5 - (intOf i).toNat)
      case atStart => exact ⟨0, by omega, by omega, rfl, Hf, c0, c1, e0, e1, hbl, hz⟩
      case round =>
        clear c0 c1 e0 e1 hbl hz Hf
        obtain ⟨j, hj0, hj, rfl, Hf, c0, c1, e0, e1, hbl, hz⟩ := hrel
        by_cases hlt2 : j < 5
        · have hi2 : (j : Int) ≤ 4 := by omega
          have hi4 : (0 : Int) ≤ (j : Int) := by omega
          obtain ⟨m, hm5, hjm⟩ : ∃ m : Nat, m < 5 ∧ m = j := ⟨j, by omega, rfl⟩
          subst hjm
          rw [Nat.sub_zero] at Hf
          have K8 := fun W => spec_RoomText (k : Int) (m : Int) W
          obtain ⟨t9, ht⟩ : ∃ t, t = romT k m := ⟨_, rfl⟩
          rw [show romTx (k : Int) (m : Int) = t9 from ht.symm] at K8
          have K9 := hide K8
          clear K8
          rcases b2 (isRm (k : Int) (m : Int)) with gR | gR
          · have Hn := hide (fstQ_no Hf.out (hitT_f hm5 (.inl (show romT k m = ⟨#[]⟩ from romTx_f gR))))
            have KR := hide (fun W => (spec_IsRoom (k : Int) (m : Int) W).mono fun e w' h => by rw [gR] at h; exact h)
            clear Hf ht
            go_wp2_with (first | (go_at_call 12; (with_reducible refine (K9.out _).mono ?_); rintro e w9 ⟨rfl, hb⟩; obtain ⟨hc, hf⟩ := bcell hb; have hz := hb.size; have z0 : w.heap.size < w9.heap.size := (by first | omega | (simp at hz; omega)); have zzwr.heap.size : wr.heap.size < w9.heap.size := (by first | omega | (simp at hz; omega))) | (go_at_call 33; (with_reducible refine (KR.out _).mono ?_); rintro e w9 ⟨rfl, hb⟩; obtain ⟨hc, hf⟩ := bcell hb; have hz := hb.size; have z0 : w.heap.size < w9.heap.size := (by first | omega | (simp at hz; omega)); have zzwr.heap.size : wr.heap.size < w9.heap.size := (by first | omega | (simp at hz; omega))))
            go_roundw
            case rel => exact ⟨m + 1, by omega, by omega, by go_num, by rw [show m + 1 - 0 = m + 1 by omega, ← Nat.add_assoc]; exact Hn, by go_simp, by go_simp, by go_simp, by go_simp, (by repeat (first | with_reducible exact Below.refl _ _ | with_reducible assumption | with_reducible refine Below.drew ?_ | with_reducible refine below_drewN ?_ _ | with_reducible refine Below.setCell ?_ (by first | exact Nat.le_refl _ | (simp; done) | (simp; omega) | (dsimp only; omega)) _ | with_reducible refine Below.alloc ?_ (by first | exact Nat.le_refl _ | (simp; done) | (simp; omega) | (simp at *; omega)) _ | with_reducible refine bstep ?_ (by assumption))), by first | omega | (simp; omega)⟩
            case measure => simp [intOf]; omega
          have KR := hide (fun W => (spec_IsRoom (k : Int) (m : Int) W).mono fun e w' h => by rw [gR] at h; exact h)
          have ht0 : t9 ≠ ⟨#[]⟩ := by rw [ht]; exact romT_ne gR
          by_cases ht1 : t9 = s
          · have Hy := hide (fstQ_yes Hf.out (hitT_t hm5 (ht ▸ ht0) (ht ▸ ht1)) 15 (by omega))
            have hG : rdG (fstQ (hitT romT s) 15) = (k : Int) := by rw [Hy.out]; show (((5 * k + m) / 5 : Nat) : Int) = k; omega
            have hR : rdR 0 (fstQ (hitT romT s) 15) = (m : Int) := by rw [Hy.out]; show (((5 * k + m) % 5 + 0 : Nat) : Int) = _; omega
            have hS : (fstQ (hitT romT s) 15).isSome = true := by rw [Hy.out]; rfl
            have hX : s.toList.isEmpty = false := by rw [bs_emp]; exact decide_eq_false fun k => ht0 (ht1.trans k)
            have hE : t9.toList.isEmpty = false := by rw [bs_emp]; exact decide_eq_false ht0
            have hY : (t9.toList == s.toList) = true := by rw [bs_beq]; exact decide_eq_true ht1
            clear Hf ht Hy
            clear ht1 ht0
            go_wp2_with (first | (go_at_call 12; (with_reducible refine (K9.out _).mono ?_); rintro e w9 ⟨rfl, hb⟩; obtain ⟨hc, hf⟩ := bcell hb; have hz := hb.size; have z0 : w.heap.size < w9.heap.size := (by first | omega | (simp at hz; omega)); have zzwr.heap.size : wr.heap.size < w9.heap.size := (by first | omega | (simp at hz; omega))) | (go_at_call 33; (with_reducible refine (KR.out _).mono ?_); rintro e w9 ⟨rfl, hb⟩; obtain ⟨hc, hf⟩ := bcell hb; have hz := hb.size; have z0 : w.heap.size < w9.heap.size := (by first | omega | (simp at hz; omega)); have zzwr.heap.size : wr.heap.size < w9.heap.size := (by first | omega | (simp at hz; omega))))
            have q0 : w9.cell? ⟨w.heap.size, 0, none⟩ = some (.int .i64 0) := by go_simp
            have q1 : w9.cell? ⟨w.heap.size, 1, none⟩ = some (.int .i64 0) := by go_simp
            have hBx : Below w.heap.size w w9 := (by repeat (first | with_reducible exact Below.refl _ _ | with_reducible assumption | with_reducible refine Below.drew ?_ | with_reducible refine below_drewN ?_ _ | with_reducible refine Below.setCell ?_ (by first | exact Nat.le_refl _ | (simp; done) | (simp; omega) | (dsimp only; omega)) _ | with_reducible refine Below.alloc ?_ (by first | exact Nat.le_refl _ | (simp; done) | (simp; omega) | (simp at *; omega)) _ | with_reducible refine bstep ?_ (by assumption)))
            clear hc hf hb c0 c1
            simp [bodyPost, results, Tryd.results18, go_sem, *]
            exact (by repeat (first | with_reducible exact Below.refl _ _ | with_reducible assumption | with_reducible refine Below.drew ?_ | with_reducible refine below_drewN ?_ _ | with_reducible refine Below.setCell ?_ (by first | exact Nat.le_refl _ | (simp; done) | (simp; omega) | (dsimp only; omega)) _ | with_reducible refine Below.alloc ?_ (by first | exact Nat.le_refl _ | (simp; done) | (simp; omega) | (simp at *; omega)) _ | with_reducible refine bstep ?_ (by assumption)))
          · have Hn := hide (fstQ_no Hf.out (hitT_f hm5 (.inr (ht ▸ ht1))))
            have hE : t9.toList.isEmpty = false := by rw [bs_emp]; exact decide_eq_false ht0
            have hY : (t9.toList == s.toList) = false := by rw [bs_beq]; exact decide_eq_false ht1
            clear Hf ht
            go_wp2_with (first | (go_at_call 12; (with_reducible refine (K9.out _).mono ?_); rintro e w9 ⟨rfl, hb⟩; obtain ⟨hc, hf⟩ := bcell hb; have hz := hb.size; have z0 : w.heap.size < w9.heap.size := (by first | omega | (simp at hz; omega)); have zzwr.heap.size : wr.heap.size < w9.heap.size := (by first | omega | (simp at hz; omega))) | (go_at_call 33; (with_reducible refine (KR.out _).mono ?_); rintro e w9 ⟨rfl, hb⟩; obtain ⟨hc, hf⟩ := bcell hb; have hz := hb.size; have z0 : w.heap.size < w9.heap.size := (by first | omega | (simp at hz; omega)); have zzwr.heap.size : wr.heap.size < w9.heap.size := (by first | omega | (simp at hz; omega))))
            go_roundw
            case rel => exact ⟨m + 1, by omega, by omega, by go_num, by rw [show m + 1 - 0 = m + 1 by omega, ← Nat.add_assoc]; exact Hn, by go_simp, by go_simp, by go_simp, by go_simp, (by repeat (first | with_reducible exact Below.refl _ _ | with_reducible assumption | with_reducible refine Below.drew ?_ | with_reducible refine below_drewN ?_ _ | with_reducible refine Below.setCell ?_ (by first | exact Nat.le_refl _ | (simp; done) | (simp; omega) | (dsimp only; omega)) _ | with_reducible refine Below.alloc ?_ (by first | exact Nat.le_refl _ | (simp; done) | (simp; omega) | (simp at *; omega)) _ | with_reducible refine bstep ?_ (by assumption))), by first | omega | (simp; omega)⟩
            case measure => simp [intOf]; omega
        · obtain rfl : j = 5 := by omega
          have Hn := hide (show fstQ (hitT romT s) (5 * (k + 1)) = none by rw [Nat.mul_add]; exact Hf.out)
          go_wp2
          go_roundw
          case rel => exact ⟨k + 1, by omega, by go_num, Hn, c0, c1, e0, e1, hbl, hz⟩
          case measure => simp [intOf]; omega
    · obtain rfl : k = 3 := by omega
      have hG : rdG (fstQ (hitT romT s) 15) = 0 := by rw [show fstQ (hitT romT s) 15 = none from Hf.out]; rfl
      have hR : rdR 0 (fstQ (hitT romT s) 15) = 0 := by rw [show fstQ (hitT romT s) 15 = none from Hf.out]; rfl
      have hS : (fstQ (hitT romT s) 15).isSome = false := by rw [show fstQ (hitT romT s) 15 = none from Hf.out]; rfl
      clear Hf
      go_wp2
      simp [bodyPost, results, Tryd.results18, go_sem, *]
      exact (by repeat (first | with_reducible exact Below.refl _ _ | with_reducible assumption | with_reducible refine Below.drew ?_ | with_reducible refine below_drewN ?_ _ | with_reducible refine Below.setCell ?_ (by first | exact Nat.le_refl _ | (simp; done) | (simp; omega) | (dsimp only; omega)) _ | with_reducible refine Below.alloc ?_ (by first | exact Nat.le_refl _ | (simp; done) | (simp; omega) | (simp at *; omega)) _ | with_reducible refine bstep ?_ (by assumption)))
end Go.Proofs.YtnmnibpcklcmgaaDoor
