/- Walks: the texts of rulings and rooms. -/
import Derived.Test.YtnmnibpcklcmgaaDoorA
import Derived.Test.YtnmnibpcklcmgaaDoorIw
import Derived.Test.YtnmnibpcklcmgaaDoorIb
import Derived.Test.YtnmnibpcklcmgaaDoorOw
import Derived.Laws.IdiomStrings
import Derived.Laws.Concat
import Derived.Deep.DeepCutAuto
namespace Go.Proofs.YtnmnibpcklcmgaaDoor
open Go.RowKit

/-- The text of 0, 1 or 2. -/
def digT (g : Int) : ByteArray := if g = 0 then ⟨#[48]⟩ else if g = 1 then ⟨#[49]⟩ else ⟨#[50]⟩
set_option maxRecDepth 100000 in
theorem impl_text (g : Int) (w : World) (h : 0 ≤ g ∧ g ≤ 2) : Calls Tryd.prog 31 #[.int .i64 g] w fun e w' => e = .returned (.string (digT g)) ∧ w = w' := by
  rcases (by omega : g = 0 ∨ g = 1 ∨ g = 2) with rfl | rfl | rfl
  all_goals
    go_enter Tryd.func31, Tryd.ntmps31
    go_wp2
    go_ret
    exact ⟨rfl, rfl⟩
set_option maxRecDepth 100000 in
theorem spec_l01Number (g : Int) (w : World) (h : 0 ≤ g ∧ g ≤ 2) : Calls Tryd.prog 28 #[.int .i64 g] w fun e w' => e = .returned (.string (digT g)) ∧ Below w.heap.size w w' := by
  have hcv : ∀ (W : World) (b cap : Nat), W.cell? ⟨b, 0, none⟩ = some (.int .u8 (48 + g)) → (convert 41 9 (.slice (some ⟨b, 0, none⟩) 1 cap)).run Tryd.prog W = .ok (.string (digT g)) W := fun W b cap hc =>
    run_convert_bytes_back W 41 9 5 ⟨b, 0, none⟩ cap [UInt8.ofNat (48 + g.toNat)] Tryd.underlying41 Tryd.underlying5 Tryd.underlying9 (fun j hj => by
      obtain rfl : j = 0 := by simpa using hj
      rcases (by omega : g = 0 ∨ g = 1 ∨ g = 2) with rfl | rfl | rfl <;> exact hc) |>.trans (by rcases (by omega : g = 0 ∨ g = 1 ∨ g = 2) with rfl | rfl | rfl <;> rfl)
  rcases (by omega : g = 0 ∨ g = 1 ∨ g = 2) with rfl | rfl | rfl
  all_goals
    go_enter Tryd.func28, Tryd.ntmps28
    go_wp2
    go_ret
    exact ⟨rfl, (by repeat (first | with_reducible exact Below.refl _ _ | with_reducible assumption | with_reducible refine Below.drew ?_ | with_reducible refine below_drewN ?_ _ | with_reducible refine Below.setCell ?_ (by first | exact Nat.le_refl _ | (simp; done) | (simp; omega) | (dsimp only; omega)) _ | with_reducible refine Below.alloc ?_ (by first | exact Nat.le_refl _ | (simp; done) | (simp; omega) | (simp at *; omega)) _ | with_reducible refine bstep ?_ (by assumption)))⟩
def rulW (r : Int) : ByteArray := if r = 1 then ⟨#[116, 117, 114, 110, 105, 110, 103]⟩ else if r = 2 then ⟨#[112, 111, 114, 116]⟩ else if r = 3 then ⟨#[97, 115, 116, 101, 114, 110]⟩ else if r = 4 then ⟨#[119, 105, 110, 100, 119, 97, 114, 100]⟩ else ⟨#[117, 110, 99, 108, 101, 97, 114]⟩
set_option maxRecDepth 100000 in
theorem impl_reasonWord (r : Int) (w : World) (h : 1 ≤ r ∧ r ≤ 5) : Calls Tryd.prog 32 #[.int .i64 r] w fun e w' => e = .returned (.string (rulW r)) ∧ Below w.heap.size w w' := by
  rcases (by omega : r = 1 ∨ r = 2 ∨ r = 3 ∨ r = 4 ∨ r = 5) with rfl | rfl | rfl | rfl | rfl
  all_goals
    go_enter Tryd.func32, Tryd.ntmps32
    go_wp2
    go_ret
    exact ⟨rfl, (by repeat (first | with_reducible exact Below.refl _ _ | with_reducible assumption | with_reducible refine Below.drew ?_ | with_reducible refine below_drewN ?_ _ | with_reducible refine Below.setCell ?_ (by first | exact Nat.le_refl _ | (simp; done) | (simp; omega) | (dsimp only; omega)) _ | with_reducible refine Below.alloc ?_ (by first | exact Nat.le_refl _ | (simp; done) | (simp; omega) | (simp at *; omega)) _ | with_reducible refine bstep ?_ (by assumption)))⟩

/-- A slice of words that the region has made; an address of a word. -/
def FWords (w : World) (n : Nat) (f : Nat → ByteArray) (v : Value) (W : World) : Prop := ∃ b, v = .slice (some ⟨b, 0, none⟩) n n ∧ w.heap.size ≤ b ∧ b < W.heap.size ∧ ∀ j, j < n → W.cell? ⟨b, j, none⟩ = some (.string (f j))
theorem FWords.later {w : World} {n : Nat} {f : Nat → ByteArray} {v : Value} {W W' : World} (hb : Below W.heap.size W W') (h : FWords w n f v W) : FWords w n f v W' := by
  obtain ⟨b, e, h2, h3, h4⟩ := h
  exact ⟨b, e, h2, Nat.lt_of_lt_of_le h3 hb.size, fun j hj => ((bcell hb).1 b j h3).trans (h4 j hj)⟩
theorem FWords.new {w W W' : World} {n : Nat} {f : Nat → ByteArray} (hw : w.heap.size ≤ W.heap.size) (h : W.heap.size < W'.heap.size ∧ ∀ j, j < n → W'.cell? ⟨W.heap.size, j, none⟩ = some (.string (f j))) : FWords w n f (.slice (some ⟨W.heap.size, 0, none⟩) n n) W' := ⟨_, rfl, hw, h.1, h.2⟩
def FWaddr (s : ByteArray) (v : Value) (W : World) : Prop := ∃ b o, v = .pointer (some ⟨b, o, none⟩) ∧ b < W.heap.size ∧ W.cell? ⟨b, o, none⟩ = some (.string s)
theorem FWaddr.later {s : ByteArray} {v : Value} {W W' : World} (hb : Below W.heap.size W W') (h : FWaddr s v W) : FWaddr s v W' := by
  obtain ⟨b, o, e, h2, h3⟩ := h
  exact ⟨b, o, e, Nat.lt_of_lt_of_le h2 hb.size, ((bcell hb).1 b o h2).trans h3⟩

/-- Whether a ruling is one; its text. -/
def rulOk (g r : Int) : Bool := inB g 0 2 && inB r 1 5 && (decide (g = 0) == decide (r = 5))
def rulWf (k : Nat) : ByteArray := rulW ((k : Int) + 1)
def rulTx (g r : Int) : ByteArray := if rulOk g r = true then digT g ++ ⟨#[32]⟩ ++ rulW r else ⟨#[]⟩
theorem rulTx_f {g r : Int} (h : rulOk g r = false) : rulTx g r = ⟨#[]⟩ := by unfold rulTx; rw [h]; rfl
theorem rulTx_t {g : Int} {k : Nat} (h : rulOk g ((k : Int) + 1) = true) : rulTx g ((k : Int) + 1) = digT g ++ ⟨#[32]⟩ ++ rulWf k := by unfold rulTx; rw [h]; rfl
theorem rul_cases (g r : Int) : inB g 0 2 = false ∨ inB g 0 2 = true ∧ inB r 1 5 = false ∨ inB g 0 2 = true ∧ inB r 1 5 = true ∧ (g = 0 ∧ r ≠ 5 ∨ g ≠ 0 ∧ r = 5) ∨ inB g 0 2 = true ∧ inB r 1 5 = true ∧ (g = 0 ∧ r = 5 ∨ g ≠ 0 ∧ r ≠ 5) := by
  rcases b2 (inB g 0 2) with h | h <;> rcases b2 (inB r 1 5) with h2 | h2 <;> simp [h, h2] <;> omega
theorem digT_size (g : Int) : (digT g).size = 1 := by unfold digT; split; rfl; split <;> rfl
theorem rulW_size (r : Int) : (rulW r).size ≤ 8 := by unfold rulW; split; decide; split; decide; split; decide; split <;> decide
theorem add1 {P : Program} (g : Int) (W : World) : (Op.stringOp .add (digT g) ⟨#[32]⟩).run P W = .ok (.string (digT g ++ ⟨#[32]⟩)) W := run_string_add_sum W _ _ (by rw [digT_size]; decide)
theorem add2 {P : Program} (g : Int) (x : ByteArray) (h : x.size ≤ 8) (W : World) : (Op.stringOp .add (digT g ++ ⟨#[32]⟩) x).run P W = .ok (.string (digT g ++ ⟨#[32]⟩ ++ x)) W := run_string_add_sum W _ _ (by rw [ByteArray.size_append, digT_size]; have : (ByteArray.mk #[32]).size = 1 := rfl; omega)
set_option maxRecDepth 100000 in
theorem spec_l10Words (w : World) : Calls Tryd.prog 29 #[] w fun e w' => e = .returned (.slice (some ⟨w.heap.size, 0, none⟩) 5 5) ∧ Below w.heap.size w w' ∧ w.heap.size < w'.heap.size ∧ ∀ j, j < 5 → w'.cell? ⟨w.heap.size, j, none⟩ = some (.string (rulWf j)) := by
  go_enter Tryd.func29, Tryd.ntmps29
  go_wp2
  go_ret
  refine ⟨rfl, (by repeat (first | with_reducible exact Below.refl _ _ | with_reducible assumption | with_reducible refine Below.drew ?_ | with_reducible refine below_drewN ?_ _ | with_reducible refine Below.setCell ?_ (by first | exact Nat.le_refl _ | (simp; done) | (simp; omega) | (dsimp only; omega)) _ | with_reducible refine Below.alloc ?_ (by first | exact Nat.le_refl _ | (simp; done) | (simp; omega) | (simp at *; omega)) _ | with_reducible refine bstep ?_ (by assumption))), by simp, fun j hj => ?_⟩
  rcases (by omega : j = 0 ∨ j = 1 ∨ j = 2 ∨ j = 3 ∨ j = 4) with rfl | rfl | rfl | rfl | rfl <;> go_simp <;> rfl
set_option maxRecDepth 100000 in
set_option maxHeartbeats 4000000 in
theorem impl_RulingText (g r : Int) (w : World) : Calls Tryd.prog 11 #[.agg #[.int .i64 g, .int .i64 r]] w fun e w' => e = .returned (.string (rulTx g r)) ∧ Below w.heap.size w w' := by
  rcases rul_cases g r with h | ⟨h, h2⟩ | ⟨h, h2, h3⟩ | ⟨h, h2, h3⟩
  · go_enter Tryd.func11, Tryd.ntmps11
    go_wp2_with (go_at_call 30; (with_reducible refine (impl_within _ _ _ _).mono ?_); rintro e w9 ⟨rfl, rfl⟩)
    go_ret
    exact ⟨by rw [rulTx_f (by unfold rulOk; rw [h]; rfl)]; rfl, (by repeat (first | with_reducible exact Below.refl _ _ | with_reducible assumption | with_reducible refine Below.drew ?_ | with_reducible refine below_drewN ?_ _ | with_reducible refine Below.setCell ?_ (by first | exact Nat.le_refl _ | (simp; done) | (simp; omega) | (dsimp only; omega)) _ | with_reducible refine Below.alloc ?_ (by first | exact Nat.le_refl _ | (simp; done) | (simp; omega) | (simp at *; omega)) _ | with_reducible refine bstep ?_ (by assumption)))⟩
  · go_enter Tryd.func11, Tryd.ntmps11
    go_wp2_with (go_at_call 30; (with_reducible refine (impl_within _ _ _ _).mono ?_); rintro e w9 ⟨rfl, rfl⟩)
    go_ret
    exact ⟨by rw [rulTx_f (by unfold rulOk; rw [h, h2]; rfl)]; rfl, (by repeat (first | with_reducible exact Below.refl _ _ | with_reducible assumption | with_reducible refine Below.drew ?_ | with_reducible refine below_drewN ?_ _ | with_reducible refine Below.setCell ?_ (by first | exact Nat.le_refl _ | (simp; done) | (simp; omega) | (dsimp only; omega)) _ | with_reducible refine Below.alloc ?_ (by first | exact Nat.le_refl _ | (simp; done) | (simp; omega) | (simp at *; omega)) _ | with_reducible refine bstep ?_ (by assumption)))⟩
  · have hf := hide (show rulOk g r = false by unfold rulOk; rw [h, h2]; simp; omega)
    rcases h3 with ⟨h3, h4⟩ | ⟨h3, h4⟩
    · have k4 : (r == 5) = false := beq_eq_false_iff_ne.2 h4
      subst h3
      go_enter Tryd.func11, Tryd.ntmps11
      go_wp2_with (go_at_call 30; (with_reducible refine (impl_within _ _ _ _).mono ?_); rintro e w9 ⟨rfl, rfl⟩)
      go_ret
      exact ⟨by rw [rulTx_f hf.out]; rfl, (by repeat (first | with_reducible exact Below.refl _ _ | with_reducible assumption | with_reducible refine Below.drew ?_ | with_reducible refine below_drewN ?_ _ | with_reducible refine Below.setCell ?_ (by first | exact Nat.le_refl _ | (simp; done) | (simp; omega) | (dsimp only; omega)) _ | with_reducible refine Below.alloc ?_ (by first | exact Nat.le_refl _ | (simp; done) | (simp; omega) | (simp at *; omega)) _ | with_reducible refine bstep ?_ (by assumption)))⟩
    · have k4 : (g == 0) = false := beq_eq_false_iff_ne.2 h3
      subst h4
      go_enter Tryd.func11, Tryd.ntmps11
      go_wp2_with (go_at_call 30; (with_reducible refine (impl_within _ _ _ _).mono ?_); rintro e w9 ⟨rfl, rfl⟩)
      go_ret
      exact ⟨by rw [rulTx_f hf.out]; rfl, (by repeat (first | with_reducible exact Below.refl _ _ | with_reducible assumption | with_reducible refine Below.drew ?_ | with_reducible refine below_drewN ?_ _ | with_reducible refine Below.setCell ?_ (by first | exact Nat.le_refl _ | (simp; done) | (simp; omega) | (dsimp only; omega)) _ | with_reducible refine Below.alloc ?_ (by first | exact Nat.le_refl _ | (simp; done) | (simp; omega) | (simp at *; omega)) _ | with_reducible refine bstep ?_ (by assumption)))⟩
  · have hr1 : 1 ≤ r ∧ r ≤ 5 := by simpa [inB] using h2
    have hg1 : 0 ≤ g ∧ g ≤ 2 := by simpa [inB] using h
    obtain ⟨k, rfl⟩ : ∃ k : Nat, r = (k : Int) + 1 := ⟨(r - 1).toNat, by omega⟩
    have ht := hide (show rulOk g ((k : Int) + 1) = true by unfold rulOk; rw [h, h2]; simp; omega)
    obtain ⟨bg, hg⟩ : ∃ x, x = (g == 0) := ⟨_, rfl⟩
    have kk : (((k : Int) + 1) == 5) = bg := by rw [hg, Bool.eq_iff_iff]; simp; omega
    have kg : (g == 0) = bg := hg.symm
    clear hg h3
    go_enter Tryd.func11, Tryd.ntmps11
    go_upto_region 3 with (go_at_call 30; (with_reducible refine (impl_within _ _ _ _).mono ?_); rintro e w9 ⟨rfl, rfl⟩)
    obtain ⟨wA, hA⟩ : ∃ x, x = w.alloc (.cells #[.int .i64 g, .int .i64 ((k : Int) + 1)] 25) := ⟨_, rfl⟩
    rw [← hA]
    have k0 : wA.cell? ⟨w.heap.size, 0, none⟩ = some (.int .i64 g) := by rw [hA]; go_simp
    have k1 : wA.cell? ⟨w.heap.size, 1, none⟩ = some (.int .i64 ((k : Int) + 1)) := by rw [hA]; go_simp
    have z0 : w.heap.size < wA.heap.size := by rw [hA]; simp
    have hB := hide (show Below w.heap.size w wA by rw [hA]; exact (by repeat (first | with_reducible exact Below.refl _ _ | with_reducible assumption | with_reducible refine Below.drew ?_ | with_reducible refine below_drewN ?_ _ | with_reducible refine Below.setCell ?_ (by first | exact Nat.le_refl _ | (simp; done) | (simp; omega) | (dsimp only; omega)) _ | with_reducible refine Below.alloc ?_ (by first | exact Nat.le_refl _ | (simp; done) | (simp; omega) | (simp at *; omega)) _ | with_reducible refine bstep ?_ (by assumption))))
    clear hA
    have a1 := add1 (P := Tryd.prog) g
    have a2 := add2 (P := Tryd.prog) g (rulWf k) (rulW_size _)
    refine wp_region_held_drew (S := fun W => Below wA.heap.size wA W) (by kernel_rfl) (Below.drew (Below.refl _ _)) (fun hHeld => ?_)
    refine wpAnyH_take (i := 0) (oi := ⟨some 22, _, _, _, _, _⟩) (v := ?_) rfl (by kernel_rfl) (by kernel_rfl) (by kernel_rfl) (fun _ _ _ h => h) (Or.inl ⟨by kernel_rfl, ?_⟩) (by assumption) ?_; rotate_left; focus (intro W0 hSw; go_simp; (try with_reducible rfl)); (try simp only [Act.put, List.setIfInBounds_toArray, List.set_cons_zero, List.set_cons_succ])
    refine wpAnyH_take (i := 1) (oi := ⟨some 23, _, _, _, _, _⟩) (v := ?_) rfl (by kernel_rfl) (by kernel_rfl) (by kernel_rfl) (fun _ _ _ h => h) (Or.inl ⟨by kernel_rfl, ?_⟩) (by assumption) ?_; rotate_left; focus (intro W0 hSw; have hcS := (bcell hSw).1; go_simp; (try with_reducible rfl)); (try simp only [Act.put, List.setIfInBounds_toArray, List.set_cons_zero, List.set_cons_succ])
    refine wpAnyH_take (i := 4) (oi := ⟨some 26, _, _, _, _, _⟩) (v := ?_) rfl (by kernel_rfl) (by kernel_rfl) (by kernel_rfl) (fun _ _ _ h => h) (Or.inl ⟨by kernel_rfl, ?_⟩) (by assumption) ?_; rotate_left; focus (intro W0 hSw; go_simp; (try with_reducible rfl)); (try simp only [Act.put, List.setIfInBounds_toArray, List.set_cons_zero, List.set_cons_succ])
    refine wpAnyH_take (i := 5) (oi := ⟨some 27, _, _, _, _, _⟩) (v := ?_) rfl (by kernel_rfl) (by kernel_rfl) (by kernel_rfl) (fun _ _ _ h => h) (Or.inl ⟨by kernel_rfl, ?_⟩) (by assumption) ?_; rotate_left; focus (intro W0 hSw; have hcS := (bcell hSw).1; go_simp; (try with_reducible rfl)); (try simp only [Act.put, List.setIfInBounds_toArray, List.set_cons_zero, List.set_cons_succ])
    refine wpAnyH_inv2 (fuel := 0) [2, 3, 6, 7, 8] [] [24, 25, 28, 29, 2] (fun uT L W => Below wA.heap.size wA W ∧ (L 2 → (uT 24) = (.string (digT g))) ∧ (L 3 → (uT 25) = (.string (digT g ++ ⟨#[32]⟩))) ∧ (L 6 → (uT 28) = (.string (rulWf k))) ∧ (L 7 → (uT 29) = (.string (digT g ++ ⟨#[32]⟩ ++ rulWf k))) ∧ (L 8 → (uT 2) = (.string (digT g ++ ⟨#[32]⟩ ++ rulWf k))) ∧ True) (by decide) (by kernel_rfl) (by kernel_rfl) (fun _ _ _ _ _ h => h) (fun uT L W hJ => hJ.1) (fun uT L hL => ⟨hHeld, fun k => absurd k (hL 2 (by decide)), fun k => absurd k (hL 3 (by decide)), fun k => absurd k (hL 6 (by decide)), fun k => absurd k (hL 7 (by decide)), fun k => absurd k (hL 8 (by decide)), trivial⟩) ?_ ?_ ?_
    · refine StepsH.cons (d := 24) (o := ⟨some 24, _, _, _, _, _⟩) rfl rfl (by kernel_rfl) ?_ ?_
      rotate_left
      refine StepsH.cons (d := 25) (o := ⟨some 25, _, _, _, _, _⟩) rfl rfl (by kernel_rfl) ?_ ?_
      rotate_left
      refine StepsH.cons (d := 28) (o := ⟨some 28, _, _, _, _, _⟩) rfl rfl (by kernel_rfl) ?_ ?_
      rotate_left
      refine StepsH.cons (d := 29) (o := ⟨some 29, _, _, _, _, _⟩) rfl rfl (by kernel_rfl) ?_ ?_
      rotate_left
      refine StepsH.cons (d := 2) (o := ⟨some 2, _, _, _, _, _⟩) rfl rfl (by kernel_rfl) ?_ ?_
      rotate_left
      exact StepsH.nil
      · intro uT L W hn hd hJ
        obtain ⟨hk, f24, f25, f28, f29, f2, _⟩ := hJ
        intro K hK
        simp only [puts, Act.put, List.setIfInBounds_toArray, List.set_cons_zero, List.set_cons_succ]
        go_simp; (first | (go_at_call 31; (with_reducible refine (impl_text _ _ hg1).mono ?_); rintro e w9 ⟨rfl, rfl⟩) | (go_at_call 32; (with_reducible refine (impl_reasonWord _ _ hr1).mono ?_); rintro e w9 ⟨rfl, hb⟩; have hzz := hb.size; (try simp at hzz); obtain ⟨hc, hf⟩ := bcell hb))
        all_goals (try go_wp2_with fail)
        all_goals
          apply Shut.go4 (W := W) hK
          · simp only [puts, Act.put, List.setIfInBounds_toArray, List.set_cons_zero, List.set_cons_succ]; rfl
          · first | with_reducible assumption | with_reducible exact Below.refl _ _ | exact Below.alloc (Below.refl _ _) (Nat.le_refl _) _
          · intro hb; exact ⟨bstep hk hb, fun _ => upd_same _ _ _, fun k => by rw [upd_ne uT _ (by decide)]; exact (f25 (k.resolve_left (by decide))), fun k => by rw [upd_ne uT _ (by decide)]; exact (f28 (k.resolve_left (by decide))), fun k => by rw [upd_ne uT _ (by decide)]; exact (f29 (k.resolve_left (by decide))), fun k => by rw [upd_ne uT _ (by decide)]; exact (f2 (k.resolve_left (by decide))), trivial⟩
      · intro uT L W hn hd hJ
        obtain ⟨hk, f24, f25, f28, f29, f2, _⟩ := hJ
        obtain e24 := f24 (hd 2 (by kernel_rfl))
        intro K hK
        simp only [puts, Act.put, List.setIfInBounds_toArray, List.set_cons_zero, List.set_cons_succ, e24]
        go_simp
        all_goals (try go_wp2_with fail)
        all_goals
          apply Shut.go4 (W := W) hK
          · simp only [puts, Act.put, List.setIfInBounds_toArray, List.set_cons_zero, List.set_cons_succ, e24]; rfl
          · first | with_reducible assumption | with_reducible exact Below.refl _ _ | exact Below.alloc (Below.refl _ _) (Nat.le_refl _) _
          · intro hb; exact ⟨bstep hk hb, fun k => by rw [upd_ne uT _ (by decide)]; exact (f24 (k.resolve_left (by decide))), fun _ => upd_same _ _ _, fun k => by rw [upd_ne uT _ (by decide)]; exact (f28 (k.resolve_left (by decide))), fun k => by rw [upd_ne uT _ (by decide)]; exact (f29 (k.resolve_left (by decide))), fun k => by rw [upd_ne uT _ (by decide)]; exact (f2 (k.resolve_left (by decide))), trivial⟩
      · intro uT L W hn hd hJ
        obtain ⟨hk, f24, f25, f28, f29, f2, _⟩ := hJ
        intro K hK
        simp only [puts, Act.put, List.setIfInBounds_toArray, List.set_cons_zero, List.set_cons_succ]
        go_simp; (first | (go_at_call 31; (with_reducible refine (impl_text _ _ hg1).mono ?_); rintro e w9 ⟨rfl, rfl⟩) | (go_at_call 32; (with_reducible refine (impl_reasonWord _ _ hr1).mono ?_); rintro e w9 ⟨rfl, hb⟩; have hzz := hb.size; (try simp at hzz); obtain ⟨hc, hf⟩ := bcell hb))
        all_goals (try go_wp2_with fail)
        all_goals
          apply Shut.go4 (W := W) hK
          · simp only [puts, Act.put, List.setIfInBounds_toArray, List.set_cons_zero, List.set_cons_succ]; rfl
          · first | with_reducible assumption | with_reducible exact Below.refl _ _ | exact Below.alloc (Below.refl _ _) (Nat.le_refl _) _
          · intro hb; exact ⟨bstep hk hb, fun k => by rw [upd_ne uT _ (by decide)]; exact (f24 (k.resolve_left (by decide))), fun k => by rw [upd_ne uT _ (by decide)]; exact (f25 (k.resolve_left (by decide))), fun _ => upd_same _ _ _, fun k => by rw [upd_ne uT _ (by decide)]; exact (f29 (k.resolve_left (by decide))), fun k => by rw [upd_ne uT _ (by decide)]; exact (f2 (k.resolve_left (by decide))), trivial⟩
      · intro uT L W hn hd hJ
        obtain ⟨hk, f24, f25, f28, f29, f2, _⟩ := hJ
        obtain e25 := f25 (hd 3 (by kernel_rfl))
        obtain e28 := f28 (hd 6 (by kernel_rfl))
        intro K hK
        simp only [puts, Act.put, List.setIfInBounds_toArray, List.set_cons_zero, List.set_cons_succ, e25, e28]
        go_simp
        all_goals (try go_wp2_with fail)
        all_goals
          apply Shut.go4 (W := W) hK
          · simp only [puts, Act.put, List.setIfInBounds_toArray, List.set_cons_zero, List.set_cons_succ, e25, e28]; rfl
          · first | with_reducible assumption | with_reducible exact Below.refl _ _ | exact Below.alloc (Below.refl _ _) (Nat.le_refl _) _
          · intro hb; exact ⟨bstep hk hb, fun k => by rw [upd_ne uT _ (by decide)]; exact (f24 (k.resolve_left (by decide))), fun k => by rw [upd_ne uT _ (by decide)]; exact (f25 (k.resolve_left (by decide))), fun k => by rw [upd_ne uT _ (by decide)]; exact (f28 (k.resolve_left (by decide))), fun _ => upd_same _ _ _, fun k => by rw [upd_ne uT _ (by decide)]; exact (f2 (k.resolve_left (by decide))), trivial⟩
      · intro uT L W hn hd hJ
        obtain ⟨hk, f24, f25, f28, f29, f2, _⟩ := hJ
        obtain e29 := f29 (hd 7 (by kernel_rfl))
        intro K hK
        simp only [puts, Act.put, List.setIfInBounds_toArray, List.set_cons_zero, List.set_cons_succ, e29]
        go_simp
        all_goals (try go_wp2_with fail)
        all_goals
          apply Shut.go4 (W := W) hK
          · simp only [puts, Act.put, List.setIfInBounds_toArray, List.set_cons_zero, List.set_cons_succ, e29]; rfl
          · first | with_reducible assumption | with_reducible exact Below.refl _ _ | exact Below.alloc (Below.refl _ _) (Nat.le_refl _) _
          · intro hb; exact ⟨bstep hk hb, fun k => by rw [upd_ne uT _ (by decide)]; exact (f24 (k.resolve_left (by decide))), fun k => by rw [upd_ne uT _ (by decide)]; exact (f25 (k.resolve_left (by decide))), fun k => by rw [upd_ne uT _ (by decide)]; exact (f28 (k.resolve_left (by decide))), fun k => by rw [upd_ne uT _ (by decide)]; exact (f29 (k.resolve_left (by decide))), fun _ => upd_same _ _ _, trivial⟩
    · exact PuresH.nil
    · intro uT L W hJ hL
      obtain ⟨hk, f24, f25, f28, f29, f2, _⟩ := hJ
      obtain e24 := f24 (hL 2 (by kernel_rfl))
      obtain e25 := f25 (hL 3 (by kernel_rfl))
      obtain e28 := f28 (hL 6 (by kernel_rfl))
      obtain e29 := f29 (hL 7 (by kernel_rfl))
      obtain e2 := f2 (hL 8 (by kernel_rfl))
      clear hHeld; have hcW := (bcell hk).1; have hfW := (bcell hk).2; have lW := Below.size hk; have hHeld := hk
      clear f24
      clear f25
      clear f28
      clear f29
      clear f2
      simp only [puts, Act.put, List.setIfInBounds_toArray, List.set_cons_zero, List.set_cons_succ, setAll, Array.replicate, e24, e25, e28, e29, e2]
      refine wpAnyH_done (by kernel_rfl) ?_ _; (try simp only [Act.put, List.setIfInBounds_toArray, List.set_cons_zero, List.set_cons_succ])
      go_wp2_with fail
      go_ret
      exact ⟨by rw [rulTx_t ht.out]; rfl, bstep hB.out hHeld⟩
set_option maxRecDepth 100000 in
set_option maxHeartbeats 4000000 in
theorem spec_RulingText (g r : Int) (w : World) : Calls Tryd.prog 9 #[.agg #[.int .i64 g, .int .i64 r]] w fun e w' => e = .returned (.string (rulTx g r)) ∧ Below w.heap.size w w' := by
  rcases rul_cases g r with h | ⟨h, h2⟩ | ⟨h, h2, h3⟩ | ⟨h, h2, h3⟩
  · go_enter Tryd.func9, Tryd.ntmps9
    go_wp2_with (go_at_call 27; (with_reducible refine (spec_l01In _ _ _ _).mono ?_); rintro e w9 ⟨rfl, rfl⟩)
    go_ret
    exact ⟨by rw [rulTx_f (by unfold rulOk; rw [h]; rfl)]; rfl, (by repeat (first | with_reducible exact Below.refl _ _ | with_reducible assumption | with_reducible refine Below.drew ?_ | with_reducible refine below_drewN ?_ _ | with_reducible refine Below.setCell ?_ (by first | exact Nat.le_refl _ | (simp; done) | (simp; omega) | (dsimp only; omega)) _ | with_reducible refine Below.alloc ?_ (by first | exact Nat.le_refl _ | (simp; done) | (simp; omega) | (simp at *; omega)) _ | with_reducible refine bstep ?_ (by assumption)))⟩
  · go_enter Tryd.func9, Tryd.ntmps9
    go_wp2_with (go_at_call 27; (with_reducible refine (spec_l01In _ _ _ _).mono ?_); rintro e w9 ⟨rfl, rfl⟩)
    go_ret
    exact ⟨by rw [rulTx_f (by unfold rulOk; rw [h, h2]; rfl)]; rfl, (by repeat (first | with_reducible exact Below.refl _ _ | with_reducible assumption | with_reducible refine Below.drew ?_ | with_reducible refine below_drewN ?_ _ | with_reducible refine Below.setCell ?_ (by first | exact Nat.le_refl _ | (simp; done) | (simp; omega) | (dsimp only; omega)) _ | with_reducible refine Below.alloc ?_ (by first | exact Nat.le_refl _ | (simp; done) | (simp; omega) | (simp at *; omega)) _ | with_reducible refine bstep ?_ (by assumption)))⟩
  · have hf := hide (show rulOk g r = false by unfold rulOk; rw [h, h2]; simp; omega)
    rcases h3 with ⟨h3, h4⟩ | ⟨h3, h4⟩
    · have k4 : (r == 5) = false := beq_eq_false_iff_ne.2 h4
      subst h3
      go_enter Tryd.func9, Tryd.ntmps9
      go_wp2_with (go_at_call 27; (with_reducible refine (spec_l01In _ _ _ _).mono ?_); rintro e w9 ⟨rfl, rfl⟩)
      go_ret
      exact ⟨by rw [rulTx_f hf.out]; rfl, (by repeat (first | with_reducible exact Below.refl _ _ | with_reducible assumption | with_reducible refine Below.drew ?_ | with_reducible refine below_drewN ?_ _ | with_reducible refine Below.setCell ?_ (by first | exact Nat.le_refl _ | (simp; done) | (simp; omega) | (dsimp only; omega)) _ | with_reducible refine Below.alloc ?_ (by first | exact Nat.le_refl _ | (simp; done) | (simp; omega) | (simp at *; omega)) _ | with_reducible refine bstep ?_ (by assumption)))⟩
    · have k4 : (g == 0) = false := beq_eq_false_iff_ne.2 h3
      subst h4
      go_enter Tryd.func9, Tryd.ntmps9
      go_wp2_with (go_at_call 27; (with_reducible refine (spec_l01In _ _ _ _).mono ?_); rintro e w9 ⟨rfl, rfl⟩)
      go_ret
      exact ⟨by rw [rulTx_f hf.out]; rfl, (by repeat (first | with_reducible exact Below.refl _ _ | with_reducible assumption | with_reducible refine Below.drew ?_ | with_reducible refine below_drewN ?_ _ | with_reducible refine Below.setCell ?_ (by first | exact Nat.le_refl _ | (simp; done) | (simp; omega) | (dsimp only; omega)) _ | with_reducible refine Below.alloc ?_ (by first | exact Nat.le_refl _ | (simp; done) | (simp; omega) | (simp at *; omega)) _ | with_reducible refine bstep ?_ (by assumption)))⟩
  · have hr1 : 1 ≤ r ∧ r ≤ 5 := by simpa [inB] using h2
    have hg1 : 0 ≤ g ∧ g ≤ 2 := by simpa [inB] using h
    obtain ⟨k, rfl⟩ : ∃ k : Nat, r = (k : Int) + 1 := ⟨(r - 1).toNat, by omega⟩
    have ht := hide (show rulOk g ((k : Int) + 1) = true by unfold rulOk; rw [h, h2]; simp; omega)
    obtain ⟨bg, hg⟩ : ∃ x, x = (g == 0) := ⟨_, rfl⟩
    have kk : (((k : Int) + 1) == 5) = bg := by rw [hg, Bool.eq_iff_iff]; simp; omega
    have kg : (g == 0) = bg := hg.symm
    clear hg h3
    go_enter Tryd.func9, Tryd.ntmps9
    go_upto_region 3 with (go_at_call 27; (with_reducible refine (spec_l01In _ _ _ _).mono ?_); rintro e w9 ⟨rfl, rfl⟩)
    obtain ⟨wA, hA⟩ : ∃ x, x = w.alloc (.cells #[.int .i64 g, .int .i64 ((k : Int) + 1)] 25) := ⟨_, rfl⟩
    rw [← hA]
    have k0 : wA.cell? ⟨w.heap.size, 0, none⟩ = some (.int .i64 g) := by rw [hA]; go_simp
    have k1 : wA.cell? ⟨w.heap.size, 1, none⟩ = some (.int .i64 ((k : Int) + 1)) := by rw [hA]; go_simp
    have z0 : w.heap.size < wA.heap.size := by rw [hA]; simp
    have hB := hide (show Below w.heap.size w wA by rw [hA]; exact (by repeat (first | with_reducible exact Below.refl _ _ | with_reducible assumption | with_reducible refine Below.drew ?_ | with_reducible refine below_drewN ?_ _ | with_reducible refine Below.setCell ?_ (by first | exact Nat.le_refl _ | (simp; done) | (simp; omega) | (dsimp only; omega)) _ | with_reducible refine Below.alloc ?_ (by first | exact Nat.le_refl _ | (simp; done) | (simp; omega) | (simp at *; omega)) _ | with_reducible refine bstep ?_ (by assumption))))
    clear hA
    have a1 := add1 (P := Tryd.prog) g
    have a2 := add2 (P := Tryd.prog) g (rulWf k) (rulW_size _)
    have hi1 : (0 : Int) ≤ (k : Int) := by omega
    have hi2 : (k : Int) < 5 := by omega
    have we : IntKind.i64.wrap (k : Int) = (k : Int) := IntWalk.i64_in _ (by omega)
    refine wp_region_held_drew (S := fun W => Below wA.heap.size wA W) (by kernel_rfl) (Below.drew (Below.refl _ _)) (fun hHeld => ?_)
    refine wpAnyH_take (i := 0) (oi := ⟨some 22, _, _, _, _, _⟩) (v := ?_) rfl (by kernel_rfl) (by kernel_rfl) (by kernel_rfl) (fun _ _ _ h => h) (Or.inl ⟨by kernel_rfl, ?_⟩) (by assumption) ?_; rotate_left; focus (intro W0 hSw; go_simp; (try with_reducible rfl)); (try simp only [Act.put, List.setIfInBounds_toArray, List.set_cons_zero, List.set_cons_succ])
    refine wpAnyH_take (i := 1) (oi := ⟨some 23, _, _, _, _, _⟩) (v := ?_) rfl (by kernel_rfl) (by kernel_rfl) (by kernel_rfl) (fun _ _ _ h => h) (Or.inl ⟨by kernel_rfl, ?_⟩) (by assumption) ?_; rotate_left; focus (intro W0 hSw; have hcS := (bcell hSw).1; go_simp; (try with_reducible rfl)); (try simp only [Act.put, List.setIfInBounds_toArray, List.set_cons_zero, List.set_cons_succ])
    refine wpAnyH_take (i := 5) (oi := ⟨some 27, _, _, _, _, _⟩) (v := ?_) rfl (by kernel_rfl) (by kernel_rfl) (by kernel_rfl) (fun _ _ _ h => h) (Or.inl ⟨by kernel_rfl, ?_⟩) (by assumption) ?_; rotate_left; focus (intro W0 hSw; go_simp; (try with_reducible rfl)); (try simp only [Act.put, List.setIfInBounds_toArray, List.set_cons_zero, List.set_cons_succ])
    refine wpAnyH_take (i := 6) (oi := ⟨some 28, _, _, _, _, _⟩) (v := ?_) rfl (by kernel_rfl) (by kernel_rfl) (by kernel_rfl) (fun _ _ _ h => h) (Or.inl ⟨by kernel_rfl, ?_⟩) (by assumption) ?_; rotate_left; focus (intro W0 hSw; have hcS := (bcell hSw).1; go_simp; (try with_reducible rfl)); (try simp only [Act.put, List.setIfInBounds_toArray, List.set_cons_zero, List.set_cons_succ])
    refine wpAnyH_take (i := 7) (oi := ⟨some 29, _, _, _, _, _⟩) (v := ?_) rfl (by kernel_rfl) (by kernel_rfl) (by kernel_rfl) (fun _ _ _ h => h) (Or.inl ⟨by kernel_rfl, ?_⟩) (by assumption) ?_; rotate_left; focus (intro W0 hSw; go_simp; (try with_reducible rfl)); (try simp only [Act.put, List.setIfInBounds_toArray, List.set_cons_zero, List.set_cons_succ])
    refine wpAnyH_inv2 (fuel := 0) [2, 3, 4, 8, 9, 10, 11] [] [24, 25, 26, 30, 31, 32, 2] (fun uT L W => Below wA.heap.size wA W ∧ (L 2 → (uT 24) = (.string (digT g))) ∧ (L 3 → (uT 25) = (.string (digT g ++ ⟨#[32]⟩))) ∧ (L 4 → FWords wA 5 rulWf (uT 26) W) ∧ (L 8 → FWaddr (rulWf k) (uT 30) W) ∧ (L 9 → (uT 31) = (.string (rulWf k))) ∧ (L 10 → (uT 32) = (.string (digT g ++ ⟨#[32]⟩ ++ rulWf k))) ∧ (L 11 → (uT 2) = (.string (digT g ++ ⟨#[32]⟩ ++ rulWf k))) ∧ True) (by decide) (by kernel_rfl) (by kernel_rfl) (fun _ _ _ _ _ h => h) (fun uT L W hJ => hJ.1) (fun uT L hL => ⟨hHeld, fun k => absurd k (hL 2 (by decide)), fun k => absurd k (hL 3 (by decide)), fun k => absurd k (hL 4 (by decide)), fun k => absurd k (hL 8 (by decide)), fun k => absurd k (hL 9 (by decide)), fun k => absurd k (hL 10 (by decide)), fun k => absurd k (hL 11 (by decide)), trivial⟩) ?_ ?_ ?_
    · refine StepsH.cons (d := 24) (o := ⟨some 24, _, _, _, _, _⟩) rfl rfl (by kernel_rfl) ?_ ?_
      rotate_left
      refine StepsH.cons (d := 25) (o := ⟨some 25, _, _, _, _, _⟩) rfl rfl (by kernel_rfl) ?_ ?_
      rotate_left
      refine StepsH.cons (d := 26) (o := ⟨some 26, _, _, _, _, _⟩) rfl rfl (by kernel_rfl) ?_ ?_
      rotate_left
      refine StepsH.cons (d := 30) (o := ⟨some 30, _, _, _, _, _⟩) rfl rfl (by kernel_rfl) ?_ ?_
      rotate_left
      refine StepsH.cons (d := 31) (o := ⟨some 31, _, _, _, _, _⟩) rfl rfl (by kernel_rfl) ?_ ?_
      rotate_left
      refine StepsH.cons (d := 32) (o := ⟨some 32, _, _, _, _, _⟩) rfl rfl (by kernel_rfl) ?_ ?_
      rotate_left
      refine StepsH.cons (d := 2) (o := ⟨some 2, _, _, _, _, _⟩) rfl rfl (by kernel_rfl) ?_ ?_
      rotate_left
      exact StepsH.nil
      · intro uT L W hn hd hJ
        obtain ⟨hk, f24, f25, f26, f30, f31, f32, f2, _⟩ := hJ
        intro K hK
        simp only [puts, Act.put, List.setIfInBounds_toArray, List.set_cons_zero, List.set_cons_succ]
        go_simp; (first | (go_at_call 28; (with_reducible refine (spec_l01Number _ _ hg1).mono ?_); rintro e w9 ⟨rfl, hb⟩; have hzz := hb.size; (try simp at hzz); obtain ⟨hc, hf⟩ := bcell hb) | (go_at_call 29; (with_reducible refine (spec_l10Words _).mono ?_); rintro e w9 ⟨rfl, hb, hw9⟩; have hzz := hb.size; (try simp at hzz)))
        all_goals (try go_wp2_with fail)
        all_goals
          apply Shut.go4 (W := W) hK
          · simp only [puts, Act.put, List.setIfInBounds_toArray, List.set_cons_zero, List.set_cons_succ]; rfl
          · first | with_reducible assumption | with_reducible exact Below.refl _ _ | exact Below.alloc (Below.refl _ _) (Nat.le_refl _) _
          · intro hb; exact ⟨bstep hk hb, fun _ => upd_same _ _ _, fun k => by rw [upd_ne uT _ (by decide)]; exact (f25 (k.resolve_left (by decide))), fun k => by rw [upd_ne uT _ (by decide)]; exact FWords.later hb (f26 (k.resolve_left (by decide))), fun k => by rw [upd_ne uT _ (by decide)]; exact FWaddr.later hb (f30 (k.resolve_left (by decide))), fun k => by rw [upd_ne uT _ (by decide)]; exact (f31 (k.resolve_left (by decide))), fun k => by rw [upd_ne uT _ (by decide)]; exact (f32 (k.resolve_left (by decide))), fun k => by rw [upd_ne uT _ (by decide)]; exact (f2 (k.resolve_left (by decide))), trivial⟩
      · intro uT L W hn hd hJ
        obtain ⟨hk, f24, f25, f26, f30, f31, f32, f2, _⟩ := hJ
        obtain e24 := f24 (hd 2 (by kernel_rfl))
        intro K hK
        simp only [puts, Act.put, List.setIfInBounds_toArray, List.set_cons_zero, List.set_cons_succ, e24]
        go_simp
        all_goals (try go_wp2_with fail)
        all_goals
          apply Shut.go4 (W := W) hK
          · simp only [puts, Act.put, List.setIfInBounds_toArray, List.set_cons_zero, List.set_cons_succ, e24]; rfl
          · first | with_reducible assumption | with_reducible exact Below.refl _ _ | exact Below.alloc (Below.refl _ _) (Nat.le_refl _) _
          · intro hb; exact ⟨bstep hk hb, fun k => by rw [upd_ne uT _ (by decide)]; exact (f24 (k.resolve_left (by decide))), fun _ => upd_same _ _ _, fun k => by rw [upd_ne uT _ (by decide)]; exact FWords.later hb (f26 (k.resolve_left (by decide))), fun k => by rw [upd_ne uT _ (by decide)]; exact FWaddr.later hb (f30 (k.resolve_left (by decide))), fun k => by rw [upd_ne uT _ (by decide)]; exact (f31 (k.resolve_left (by decide))), fun k => by rw [upd_ne uT _ (by decide)]; exact (f32 (k.resolve_left (by decide))), fun k => by rw [upd_ne uT _ (by decide)]; exact (f2 (k.resolve_left (by decide))), trivial⟩
      · intro uT L W hn hd hJ
        obtain ⟨hk, f24, f25, f26, f30, f31, f32, f2, _⟩ := hJ
        intro K hK
        simp only [puts, Act.put, List.setIfInBounds_toArray, List.set_cons_zero, List.set_cons_succ]
        go_simp; (first | (go_at_call 28; (with_reducible refine (spec_l01Number _ _ hg1).mono ?_); rintro e w9 ⟨rfl, hb⟩; have hzz := hb.size; (try simp at hzz); obtain ⟨hc, hf⟩ := bcell hb) | (go_at_call 29; (with_reducible refine (spec_l10Words _).mono ?_); rintro e w9 ⟨rfl, hb, hw9⟩; have hzz := hb.size; (try simp at hzz)))
        all_goals (try go_wp2_with fail)
        all_goals
          apply Shut.go4 (W := W) hK
          · simp only [puts, Act.put, List.setIfInBounds_toArray, List.set_cons_zero, List.set_cons_succ]; rfl
          · first | with_reducible assumption | with_reducible exact Below.refl _ _ | exact Below.alloc (Below.refl _ _) (Nat.le_refl _) _
          · intro hb; exact ⟨bstep hk hb, fun k => by rw [upd_ne uT _ (by decide)]; exact (f24 (k.resolve_left (by decide))), fun k => by rw [upd_ne uT _ (by decide)]; exact (f25 (k.resolve_left (by decide))), fun _ => by rw [upd_same]; exact FWords.new (Below.size hk) hw9, fun k => by rw [upd_ne uT _ (by decide)]; exact FWaddr.later hb (f30 (k.resolve_left (by decide))), fun k => by rw [upd_ne uT _ (by decide)]; exact (f31 (k.resolve_left (by decide))), fun k => by rw [upd_ne uT _ (by decide)]; exact (f32 (k.resolve_left (by decide))), fun k => by rw [upd_ne uT _ (by decide)]; exact (f2 (k.resolve_left (by decide))), trivial⟩
      · intro uT L W hn hd hJ
        obtain ⟨hk, f24, f25, f26, f30, f31, f32, f2, _⟩ := hJ
        obtain ⟨b26, e26, bb26, lb26, cb26⟩ := f26 (hd 4 (by kernel_rfl))
        intro K hK
        simp only [puts, Act.put, List.setIfInBounds_toArray, List.set_cons_zero, List.set_cons_succ, e26]
        go_simp
        all_goals (try go_wp2_with fail)
        all_goals
          apply Shut.go4 (W := W) hK
          · simp only [puts, Act.put, List.setIfInBounds_toArray, List.set_cons_zero, List.set_cons_succ, e26]; rfl
          · first | with_reducible assumption | with_reducible exact Below.refl _ _ | exact Below.alloc (Below.refl _ _) (Nat.le_refl _) _
          · intro hb; exact ⟨bstep hk hb, fun k => by rw [upd_ne uT _ (by decide)]; exact (f24 (k.resolve_left (by decide))), fun k => by rw [upd_ne uT _ (by decide)]; exact (f25 (k.resolve_left (by decide))), fun k => by rw [upd_ne uT _ (by decide)]; exact FWords.later hb (f26 (k.resolve_left (by decide))), fun _ => by rw [upd_same]; exact ⟨_, _, rfl, lb26, cb26 _ (by omega)⟩, fun k => by rw [upd_ne uT _ (by decide)]; exact (f31 (k.resolve_left (by decide))), fun k => by rw [upd_ne uT _ (by decide)]; exact (f32 (k.resolve_left (by decide))), fun k => by rw [upd_ne uT _ (by decide)]; exact (f2 (k.resolve_left (by decide))), trivial⟩
      · intro uT L W hn hd hJ
        obtain ⟨hk, f24, f25, f26, f30, f31, f32, f2, _⟩ := hJ
        obtain ⟨b30, o30, e30, lb30, cb30⟩ := f30 (hd 8 (by kernel_rfl))
        intro K hK
        simp only [puts, Act.put, List.setIfInBounds_toArray, List.set_cons_zero, List.set_cons_succ, e30]
        go_simp
        all_goals (try go_wp2_with fail)
        all_goals
          apply Shut.go4 (W := W) hK
          · simp only [puts, Act.put, List.setIfInBounds_toArray, List.set_cons_zero, List.set_cons_succ, e30]; rfl
          · first | with_reducible assumption | with_reducible exact Below.refl _ _ | exact Below.alloc (Below.refl _ _) (Nat.le_refl _) _
          · intro hb; exact ⟨bstep hk hb, fun k => by rw [upd_ne uT _ (by decide)]; exact (f24 (k.resolve_left (by decide))), fun k => by rw [upd_ne uT _ (by decide)]; exact (f25 (k.resolve_left (by decide))), fun k => by rw [upd_ne uT _ (by decide)]; exact FWords.later hb (f26 (k.resolve_left (by decide))), fun k => by rw [upd_ne uT _ (by decide)]; exact FWaddr.later hb (f30 (k.resolve_left (by decide))), fun _ => upd_same _ _ _, fun k => by rw [upd_ne uT _ (by decide)]; exact (f32 (k.resolve_left (by decide))), fun k => by rw [upd_ne uT _ (by decide)]; exact (f2 (k.resolve_left (by decide))), trivial⟩
      · intro uT L W hn hd hJ
        obtain ⟨hk, f24, f25, f26, f30, f31, f32, f2, _⟩ := hJ
        obtain e25 := f25 (hd 3 (by kernel_rfl))
        obtain e31 := f31 (hd 9 (by kernel_rfl))
        intro K hK
        simp only [puts, Act.put, List.setIfInBounds_toArray, List.set_cons_zero, List.set_cons_succ, e25, e31]
        go_simp
        all_goals (try go_wp2_with fail)
        all_goals
          apply Shut.go4 (W := W) hK
          · simp only [puts, Act.put, List.setIfInBounds_toArray, List.set_cons_zero, List.set_cons_succ, e25, e31]; rfl
          · first | with_reducible assumption | with_reducible exact Below.refl _ _ | exact Below.alloc (Below.refl _ _) (Nat.le_refl _) _
          · intro hb; exact ⟨bstep hk hb, fun k => by rw [upd_ne uT _ (by decide)]; exact (f24 (k.resolve_left (by decide))), fun k => by rw [upd_ne uT _ (by decide)]; exact (f25 (k.resolve_left (by decide))), fun k => by rw [upd_ne uT _ (by decide)]; exact FWords.later hb (f26 (k.resolve_left (by decide))), fun k => by rw [upd_ne uT _ (by decide)]; exact FWaddr.later hb (f30 (k.resolve_left (by decide))), fun k => by rw [upd_ne uT _ (by decide)]; exact (f31 (k.resolve_left (by decide))), fun _ => upd_same _ _ _, fun k => by rw [upd_ne uT _ (by decide)]; exact (f2 (k.resolve_left (by decide))), trivial⟩
      · intro uT L W hn hd hJ
        obtain ⟨hk, f24, f25, f26, f30, f31, f32, f2, _⟩ := hJ
        obtain e32 := f32 (hd 10 (by kernel_rfl))
        intro K hK
        simp only [puts, Act.put, List.setIfInBounds_toArray, List.set_cons_zero, List.set_cons_succ, e32]
        go_simp
        all_goals (try go_wp2_with fail)
        all_goals
          apply Shut.go4 (W := W) hK
          · simp only [puts, Act.put, List.setIfInBounds_toArray, List.set_cons_zero, List.set_cons_succ, e32]; rfl
          · first | with_reducible assumption | with_reducible exact Below.refl _ _ | exact Below.alloc (Below.refl _ _) (Nat.le_refl _) _
          · intro hb; exact ⟨bstep hk hb, fun k => by rw [upd_ne uT _ (by decide)]; exact (f24 (k.resolve_left (by decide))), fun k => by rw [upd_ne uT _ (by decide)]; exact (f25 (k.resolve_left (by decide))), fun k => by rw [upd_ne uT _ (by decide)]; exact FWords.later hb (f26 (k.resolve_left (by decide))), fun k => by rw [upd_ne uT _ (by decide)]; exact FWaddr.later hb (f30 (k.resolve_left (by decide))), fun k => by rw [upd_ne uT _ (by decide)]; exact (f31 (k.resolve_left (by decide))), fun k => by rw [upd_ne uT _ (by decide)]; exact (f32 (k.resolve_left (by decide))), fun _ => upd_same _ _ _, trivial⟩
    · exact PuresH.nil
    · intro uT L W hJ hL
      obtain ⟨hk, f24, f25, f26, f30, f31, f32, f2, _⟩ := hJ
      obtain e24 := f24 (hL 2 (by kernel_rfl))
      obtain e25 := f25 (hL 3 (by kernel_rfl))
      obtain ⟨b26, e26, bb26, lb26, cb26⟩ := f26 (hL 4 (by kernel_rfl))
      obtain ⟨b30, o30, e30, lb30, cb30⟩ := f30 (hL 8 (by kernel_rfl))
      obtain e31 := f31 (hL 9 (by kernel_rfl))
      obtain e32 := f32 (hL 10 (by kernel_rfl))
      obtain e2 := f2 (hL 11 (by kernel_rfl))
      clear hHeld; have hcW := (bcell hk).1; have hfW := (bcell hk).2; have lW := Below.size hk; have hHeld := hk
      clear f24
      clear f25
      clear f26
      clear f30
      clear f31
      clear f32
      clear f2
      simp only [puts, Act.put, List.setIfInBounds_toArray, List.set_cons_zero, List.set_cons_succ, setAll, Array.replicate, e24, e25, e26, e30, e31, e32, e2]
      refine wpAnyH_done (by kernel_rfl) ?_ _; (try simp only [Act.put, List.setIfInBounds_toArray, List.set_cons_zero, List.set_cons_succ])
      go_wp2_with fail
      go_ret
      exact ⟨by rw [rulTx_t ht.out]; rfl, bstep hB.out hHeld⟩

def romWf (r : Nat) : ByteArray := if r = 0 then ⟨#[110, 111, 110, 101]⟩ else if r = 1 then ⟨#[111, 112, 112, 111, 115, 105, 116, 101]⟩ else if r = 2 then ⟨#[105, 110, 115, 105, 100, 101]⟩ else if r = 3 then ⟨#[97, 104, 101, 97, 100]⟩ else ⟨#[117, 110, 99, 108, 101, 97, 114]⟩
theorem romW_size (r : Nat) : (romWf r).size ≤ 8 := by unfold romWf; split; decide; split; decide; split; decide; split <;> decide
def romTx (g r : Int) : ByteArray := if isRm g r = true then digT g ++ ⟨#[32]⟩ ++ romWf r.toNat else ⟨#[]⟩
theorem romTx_f {g r : Int} (h : isRm g r = false) : romTx g r = ⟨#[]⟩ := by unfold romTx; rw [h]; rfl
theorem romTx_t {g : Int} {k : Nat} (h : isRm g (k : Int) = true) : romTx g (k : Int) = digT g ++ ⟨#[32]⟩ ++ romWf k := by unfold romTx; rw [h]; rfl
theorem isRm_in {g r : Int} (h : isRm g r = true) : (0 ≤ g ∧ g ≤ 2) ∧ 0 ≤ r ∧ r ≤ 4 := by
  unfold isRm at h
  split at h
  · rename_i k
    have := inB_t h
    have k : r = 2 ∨ r = 3 := by simpa using k
    omega
  · simp only [Bool.and_eq_true, beq_iff_eq] at h
    have := inB_t h.1
    omega
set_option maxRecDepth 100000 in
theorem spec_l11Words (w : World) : Calls Tryd.prog 34 #[] w fun e w' => e = .returned (.slice (some ⟨w.heap.size, 0, none⟩) 5 5) ∧ Below w.heap.size w w' ∧ w.heap.size < w'.heap.size ∧ ∀ j, j < 5 → w'.cell? ⟨w.heap.size, j, none⟩ = some (.string (romWf j)) := by
  go_enter Tryd.func34, Tryd.ntmps34
  go_wp2
  go_ret
  refine ⟨rfl, (by repeat (first | with_reducible exact Below.refl _ _ | with_reducible assumption | with_reducible refine Below.drew ?_ | with_reducible refine below_drewN ?_ _ | with_reducible refine Below.setCell ?_ (by first | exact Nat.le_refl _ | (simp; done) | (simp; omega) | (dsimp only; omega)) _ | with_reducible refine Below.alloc ?_ (by first | exact Nat.le_refl _ | (simp; done) | (simp; omega) | (simp at *; omega)) _ | with_reducible refine bstep ?_ (by assumption))), by simp, fun j hj => ?_⟩
  rcases (by omega : j = 0 ∨ j = 1 ∨ j = 2 ∨ j = 3 ∨ j = 4) with rfl | rfl | rfl | rfl | rfl <;> go_simp <;> rfl
set_option maxRecDepth 100000 in
set_option maxHeartbeats 4000000 in
theorem impl_RoomText (g r : Int) (w : World) : Calls Tryd.prog 14 #[.agg #[.int .i64 g, .int .i64 r]] w fun e w' => e = .returned (.string (romTx g r)) ∧ Below w.heap.size w w' := by
  rcases b2 (isRm g r) with h | h
  · go_enter Tryd.func14, Tryd.ntmps14
    go_wp2_with (go_at_call 23; (with_reducible refine (impl_IsRoom _ _ _).mono ?_); rintro e w9 ⟨rfl, hb⟩; obtain ⟨hc, hf⟩ := bcell hb; have hz := hb.size; have z0 : w.heap.size < w9.heap.size := (by first | omega | (simp at hz; omega)); have z1 : w.heap.size + 1 < w9.heap.size := (by first | omega | (simp at hz; omega)))
    go_ret
    exact ⟨by rw [romTx_f h]; rfl, (by repeat (first | with_reducible exact Below.refl _ _ | with_reducible assumption | with_reducible refine Below.drew ?_ | with_reducible refine below_drewN ?_ _ | with_reducible refine Below.setCell ?_ (by first | exact Nat.le_refl _ | (simp; done) | (simp; omega) | (dsimp only; omega)) _ | with_reducible refine Below.alloc ?_ (by first | exact Nat.le_refl _ | (simp; done) | (simp; omega) | (simp at *; omega)) _ | with_reducible refine bstep ?_ (by assumption)))⟩
  · obtain ⟨hg1, hr1⟩ := isRm_in h
    obtain ⟨k, rfl⟩ : ∃ k : Nat, r = (k : Int) := ⟨r.toNat, by omega⟩
    have ht := hide h
    have hi1 : (0 : Int) ≤ (k : Int) := by omega
    have hi2 : (k : Int) < 5 := by omega
    go_enter Tryd.func14, Tryd.ntmps14
    go_upto_region 4 with (go_at_call 23; (with_reducible refine (impl_IsRoom _ _ _).mono ?_); rintro e w9 ⟨rfl, hb⟩; obtain ⟨hc, hf⟩ := bcell hb; have hz := hb.size; have z0 : w.heap.size < w9.heap.size := (by first | omega | (simp at hz; omega)); have z1 : w.heap.size + 1 < w9.heap.size := (by first | omega | (simp at hz; omega)))
    obtain ⟨wA, rfl⟩ : ∃ x : World, x = w9 := ⟨_, rfl⟩
    have k0 : wA.cell? ⟨w.heap.size, 0, none⟩ = some (.int .i64 g) := by go_simp
    have k1 : wA.cell? ⟨w.heap.size, 1, none⟩ = some (.int .i64 (k : Int)) := by go_simp
    have hw : ∀ j : Nat, j < 5 → wA.cell? ⟨w.heap.size + 1, j, none⟩ = some (.string (romWf j)) := fun j hj => by
      rcases (by omega : j = 0 ∨ j = 1 ∨ j = 2 ∨ j = 3 ∨ j = 4) with rfl | rfl | rfl | rfl | rfl <;> go_simp <;> rfl
    have k2 := hw k (by omega)
    have hB := hide (show Below w.heap.size w wA from (by repeat (first | with_reducible exact Below.refl _ _ | with_reducible assumption | with_reducible refine Below.drew ?_ | with_reducible refine below_drewN ?_ _ | with_reducible refine Below.setCell ?_ (by first | exact Nat.le_refl _ | (simp; done) | (simp; omega) | (dsimp only; omega)) _ | with_reducible refine Below.alloc ?_ (by first | exact Nat.le_refl _ | (simp; done) | (simp; omega) | (simp at *; omega)) _ | with_reducible refine bstep ?_ (by assumption))))
    clear hc hf hb hw h
    have a1 := add1 (P := Tryd.prog) g
    have a2 := add2 (P := Tryd.prog) g (romWf k) (romW_size _)
    refine wp_region_held_drew (S := fun W => Below wA.heap.size wA W) (by kernel_rfl) (Below.drew (Below.refl _ _)) (fun hHeld => ?_)
    refine wpAnyH_take (i := 0) (oi := ⟨some 8, _, _, _, _, _⟩) (v := ?_) rfl (by kernel_rfl) (by kernel_rfl) (by kernel_rfl) (fun _ _ _ h => h) (Or.inl ⟨by kernel_rfl, ?_⟩) (by assumption) ?_; rotate_left; focus (intro W0 hSw; go_simp; (try with_reducible rfl)); (try simp only [Act.put, List.setIfInBounds_toArray, List.set_cons_zero, List.set_cons_succ])
    refine wpAnyH_take (i := 1) (oi := ⟨some 9, _, _, _, _, _⟩) (v := ?_) rfl (by kernel_rfl) (by kernel_rfl) (by kernel_rfl) (fun _ _ _ h => h) (Or.inl ⟨by kernel_rfl, ?_⟩) (by assumption) ?_; rotate_left; focus (intro W0 hSw; have hcS := (bcell hSw).1; go_simp; (try with_reducible rfl)); (try simp only [Act.put, List.setIfInBounds_toArray, List.set_cons_zero, List.set_cons_succ])
    refine wpAnyH_take (i := 4) (oi := ⟨some 12, _, _, _, _, _⟩) (v := ?_) rfl (by kernel_rfl) (by kernel_rfl) (by kernel_rfl) (fun _ _ _ h => h) (Or.inl ⟨by kernel_rfl, ?_⟩) (by assumption) ?_; rotate_left; focus (intro W0 hSw; go_simp; (try with_reducible rfl)); (try simp only [Act.put, List.setIfInBounds_toArray, List.set_cons_zero, List.set_cons_succ])
    refine wpAnyH_take (i := 5) (oi := ⟨some 13, _, _, _, _, _⟩) (v := ?_) rfl (by kernel_rfl) (by kernel_rfl) (by kernel_rfl) (fun _ _ _ h => h) (Or.inl ⟨by kernel_rfl, ?_⟩) (by assumption) ?_; rotate_left; focus (intro W0 hSw; have hcS := (bcell hSw).1; go_simp; (try with_reducible rfl)); (try simp only [Act.put, List.setIfInBounds_toArray, List.set_cons_zero, List.set_cons_succ])
    refine wpAnyH_take (i := 6) (oi := ⟨some 14, _, _, _, _, _⟩) (v := ?_) rfl (by kernel_rfl) (by kernel_rfl) (by kernel_rfl) (fun _ _ _ h => h) (Or.inl ⟨by kernel_rfl, ?_⟩) (by assumption) ?_; rotate_left; focus (intro W0 hSw; go_simp; (try with_reducible rfl)); (try simp only [Act.put, List.setIfInBounds_toArray, List.set_cons_zero, List.set_cons_succ])
    refine wpAnyH_take (i := 7) (oi := ⟨some 15, _, _, _, _, _⟩) (v := ?_) rfl (by kernel_rfl) (by kernel_rfl) (by kernel_rfl) (fun _ _ _ h => h) (Or.inl ⟨by kernel_rfl, ?_⟩) (by assumption) ?_; rotate_left; focus (intro W0 hSw; have hcS := (bcell hSw).1; go_simp; (try with_reducible rfl)); (try simp only [Act.put, List.setIfInBounds_toArray, List.set_cons_zero, List.set_cons_succ])
    refine wpAnyH_inv2 (fuel := 0) [2, 3, 8, 9] [] [10, 11, 16, 2] (fun uT L W => Below wA.heap.size wA W ∧ (L 2 → (uT 10) = (.string (digT g))) ∧ (L 3 → (uT 11) = (.string (digT g ++ ⟨#[32]⟩))) ∧ (L 8 → (uT 16) = (.string (digT g ++ ⟨#[32]⟩ ++ romWf k))) ∧ (L 9 → (uT 2) = (.string (digT g ++ ⟨#[32]⟩ ++ romWf k))) ∧ True) (by decide) (by kernel_rfl) (by kernel_rfl) (fun _ _ _ _ _ h => h) (fun uT L W hJ => hJ.1) (fun uT L hL => ⟨hHeld, fun k => absurd k (hL 2 (by decide)), fun k => absurd k (hL 3 (by decide)), fun k => absurd k (hL 8 (by decide)), fun k => absurd k (hL 9 (by decide)), trivial⟩) ?_ ?_ ?_
    · refine StepsH.cons (d := 10) (o := ⟨some 10, _, _, _, _, _⟩) rfl rfl (by kernel_rfl) ?_ ?_
      rotate_left
      refine StepsH.cons (d := 11) (o := ⟨some 11, _, _, _, _, _⟩) rfl rfl (by kernel_rfl) ?_ ?_
      rotate_left
      refine StepsH.cons (d := 16) (o := ⟨some 16, _, _, _, _, _⟩) rfl rfl (by kernel_rfl) ?_ ?_
      rotate_left
      refine StepsH.cons (d := 2) (o := ⟨some 2, _, _, _, _, _⟩) rfl rfl (by kernel_rfl) ?_ ?_
      rotate_left
      exact StepsH.nil
      · intro uT L W hn hd hJ
        obtain ⟨hk, f10, f11, f16, f2, _⟩ := hJ
        intro K hK
        simp only [puts, Act.put, List.setIfInBounds_toArray, List.set_cons_zero, List.set_cons_succ]
        go_simp; (go_at_call 31; (with_reducible refine (impl_text _ _ hg1).mono ?_); rintro e w9 ⟨rfl, rfl⟩)
        all_goals (try go_wp2_with fail)
        all_goals
          apply Shut.go4 (W := W) hK
          · simp only [puts, Act.put, List.setIfInBounds_toArray, List.set_cons_zero, List.set_cons_succ]; rfl
          · first | with_reducible assumption | with_reducible exact Below.refl _ _ | exact Below.alloc (Below.refl _ _) (Nat.le_refl _) _
          · intro hb; exact ⟨bstep hk hb, fun _ => upd_same _ _ _, fun k => by rw [upd_ne uT _ (by decide)]; exact (f11 (k.resolve_left (by decide))), fun k => by rw [upd_ne uT _ (by decide)]; exact (f16 (k.resolve_left (by decide))), fun k => by rw [upd_ne uT _ (by decide)]; exact (f2 (k.resolve_left (by decide))), trivial⟩
      · intro uT L W hn hd hJ
        obtain ⟨hk, f10, f11, f16, f2, _⟩ := hJ
        obtain e10 := f10 (hd 2 (by kernel_rfl))
        intro K hK
        simp only [puts, Act.put, List.setIfInBounds_toArray, List.set_cons_zero, List.set_cons_succ, e10]
        go_simp
        all_goals (try go_wp2_with fail)
        all_goals
          apply Shut.go4 (W := W) hK
          · simp only [puts, Act.put, List.setIfInBounds_toArray, List.set_cons_zero, List.set_cons_succ, e10]; rfl
          · first | with_reducible assumption | with_reducible exact Below.refl _ _ | exact Below.alloc (Below.refl _ _) (Nat.le_refl _) _
          · intro hb; exact ⟨bstep hk hb, fun k => by rw [upd_ne uT _ (by decide)]; exact (f10 (k.resolve_left (by decide))), fun _ => upd_same _ _ _, fun k => by rw [upd_ne uT _ (by decide)]; exact (f16 (k.resolve_left (by decide))), fun k => by rw [upd_ne uT _ (by decide)]; exact (f2 (k.resolve_left (by decide))), trivial⟩
      · intro uT L W hn hd hJ
        obtain ⟨hk, f10, f11, f16, f2, _⟩ := hJ
        obtain e11 := f11 (hd 3 (by kernel_rfl))
        intro K hK
        simp only [puts, Act.put, List.setIfInBounds_toArray, List.set_cons_zero, List.set_cons_succ, e11]
        go_simp
        all_goals (try go_wp2_with fail)
        all_goals
          apply Shut.go4 (W := W) hK
          · simp only [puts, Act.put, List.setIfInBounds_toArray, List.set_cons_zero, List.set_cons_succ, e11]; rfl
          · first | with_reducible assumption | with_reducible exact Below.refl _ _ | exact Below.alloc (Below.refl _ _) (Nat.le_refl _) _
          · intro hb; exact ⟨bstep hk hb, fun k => by rw [upd_ne uT _ (by decide)]; exact (f10 (k.resolve_left (by decide))), fun k => by rw [upd_ne uT _ (by decide)]; exact (f11 (k.resolve_left (by decide))), fun _ => upd_same _ _ _, fun k => by rw [upd_ne uT _ (by decide)]; exact (f2 (k.resolve_left (by decide))), trivial⟩
      · intro uT L W hn hd hJ
        obtain ⟨hk, f10, f11, f16, f2, _⟩ := hJ
        obtain e16 := f16 (hd 8 (by kernel_rfl))
        intro K hK
        simp only [puts, Act.put, List.setIfInBounds_toArray, List.set_cons_zero, List.set_cons_succ, e16]
        go_simp
        all_goals (try go_wp2_with fail)
        all_goals
          apply Shut.go4 (W := W) hK
          · simp only [puts, Act.put, List.setIfInBounds_toArray, List.set_cons_zero, List.set_cons_succ, e16]; rfl
          · first | with_reducible assumption | with_reducible exact Below.refl _ _ | exact Below.alloc (Below.refl _ _) (Nat.le_refl _) _
          · intro hb; exact ⟨bstep hk hb, fun k => by rw [upd_ne uT _ (by decide)]; exact (f10 (k.resolve_left (by decide))), fun k => by rw [upd_ne uT _ (by decide)]; exact (f11 (k.resolve_left (by decide))), fun k => by rw [upd_ne uT _ (by decide)]; exact (f16 (k.resolve_left (by decide))), fun _ => upd_same _ _ _, trivial⟩
    · exact PuresH.nil
    · intro uT L W hJ hL
      obtain ⟨hk, f10, f11, f16, f2, _⟩ := hJ
      obtain e10 := f10 (hL 2 (by kernel_rfl))
      obtain e11 := f11 (hL 3 (by kernel_rfl))
      obtain e16 := f16 (hL 8 (by kernel_rfl))
      obtain e2 := f2 (hL 9 (by kernel_rfl))
      clear hHeld; have hcW := (bcell hk).1; have hfW := (bcell hk).2; have lW := Below.size hk; have hHeld := hk
      clear f10
      clear f11
      clear f16
      clear f2
      simp only [puts, Act.put, List.setIfInBounds_toArray, List.set_cons_zero, List.set_cons_succ, setAll, Array.replicate, e10, e11, e16, e2]
      refine wpAnyH_done (by kernel_rfl) ?_ _; (try simp only [Act.put, List.setIfInBounds_toArray, List.set_cons_zero, List.set_cons_succ])
      go_wp2_with fail
      go_ret
      exact ⟨by rw [romTx_t ht.out]; rfl, bstep hB.out hHeld⟩
set_option maxRecDepth 100000 in
set_option maxHeartbeats 4000000 in
theorem spec_RoomText (g r : Int) (w : World) : Calls Tryd.prog 12 #[.agg #[.int .i64 g, .int .i64 r]] w fun e w' => e = .returned (.string (romTx g r)) ∧ Below w.heap.size w w' := by
  rcases b2 (isRm g r) with h | h
  · go_enter Tryd.func12, Tryd.ntmps12
    go_wp2_with (go_at_call 33; (with_reducible refine (spec_IsRoom _ _ _).mono ?_); rintro e w9 ⟨rfl, hb⟩; obtain ⟨hc, hf⟩ := bcell hb; have hz := hb.size; have z0 : w.heap.size < w9.heap.size := (by first | omega | (simp at hz; omega)))
    go_ret
    exact ⟨by rw [romTx_f h]; rfl, (by repeat (first | with_reducible exact Below.refl _ _ | with_reducible assumption | with_reducible refine Below.drew ?_ | with_reducible refine below_drewN ?_ _ | with_reducible refine Below.setCell ?_ (by first | exact Nat.le_refl _ | (simp; done) | (simp; omega) | (dsimp only; omega)) _ | with_reducible refine Below.alloc ?_ (by first | exact Nat.le_refl _ | (simp; done) | (simp; omega) | (simp at *; omega)) _ | with_reducible refine bstep ?_ (by assumption)))⟩
  · obtain ⟨hg1, hr1⟩ := isRm_in h
    obtain ⟨k, rfl⟩ : ∃ k : Nat, r = (k : Int) := ⟨r.toNat, by omega⟩
    have ht := hide h
    have hi1 : (0 : Int) ≤ (k : Int) := by omega
    have hi2 : (k : Int) < 5 := by omega
    go_enter Tryd.func12, Tryd.ntmps12
    go_upto_region 3 with (go_at_call 33; (with_reducible refine (spec_IsRoom _ _ _).mono ?_); rintro e w9 ⟨rfl, hb⟩; obtain ⟨hc, hf⟩ := bcell hb; have hz := hb.size; have z0 : w.heap.size < w9.heap.size := (by first | omega | (simp at hz; omega)))
    obtain ⟨wA, rfl⟩ : ∃ x : World, x = w9 := ⟨_, rfl⟩
    have k0 : wA.cell? ⟨w.heap.size, 0, none⟩ = some (.int .i64 g) := by go_simp
    have k1 : wA.cell? ⟨w.heap.size, 1, none⟩ = some (.int .i64 (k : Int)) := by go_simp
    have hB := hide (show Below w.heap.size w wA from (by repeat (first | with_reducible exact Below.refl _ _ | with_reducible assumption | with_reducible refine Below.drew ?_ | with_reducible refine below_drewN ?_ _ | with_reducible refine Below.setCell ?_ (by first | exact Nat.le_refl _ | (simp; done) | (simp; omega) | (dsimp only; omega)) _ | with_reducible refine Below.alloc ?_ (by first | exact Nat.le_refl _ | (simp; done) | (simp; omega) | (simp at *; omega)) _ | with_reducible refine bstep ?_ (by assumption))))
    clear hc hf hb h
    have a1 := add1 (P := Tryd.prog) g
    have a2 := add2 (P := Tryd.prog) g (romWf k) (romW_size _)
    refine wp_region_held_drew (S := fun W => Below wA.heap.size wA W) (by kernel_rfl) (Below.drew (Below.refl _ _)) (fun hHeld => ?_)
    refine wpAnyH_take (i := 0) (oi := ⟨some 6, _, _, _, _, _⟩) (v := ?_) rfl (by kernel_rfl) (by kernel_rfl) (by kernel_rfl) (fun _ _ _ h => h) (Or.inl ⟨by kernel_rfl, ?_⟩) (by assumption) ?_; rotate_left; focus (intro W0 hSw; go_simp; (try with_reducible rfl)); (try simp only [Act.put, List.setIfInBounds_toArray, List.set_cons_zero, List.set_cons_succ])
    refine wpAnyH_take (i := 1) (oi := ⟨some 7, _, _, _, _, _⟩) (v := ?_) rfl (by kernel_rfl) (by kernel_rfl) (by kernel_rfl) (fun _ _ _ h => h) (Or.inl ⟨by kernel_rfl, ?_⟩) (by assumption) ?_; rotate_left; focus (intro W0 hSw; have hcS := (bcell hSw).1; go_simp; (try with_reducible rfl)); (try simp only [Act.put, List.setIfInBounds_toArray, List.set_cons_zero, List.set_cons_succ])
    refine wpAnyH_take (i := 5) (oi := ⟨some 11, _, _, _, _, _⟩) (v := ?_) rfl (by kernel_rfl) (by kernel_rfl) (by kernel_rfl) (fun _ _ _ h => h) (Or.inl ⟨by kernel_rfl, ?_⟩) (by assumption) ?_; rotate_left; focus (intro W0 hSw; go_simp; (try with_reducible rfl)); (try simp only [Act.put, List.setIfInBounds_toArray, List.set_cons_zero, List.set_cons_succ])
    refine wpAnyH_take (i := 6) (oi := ⟨some 12, _, _, _, _, _⟩) (v := ?_) rfl (by kernel_rfl) (by kernel_rfl) (by kernel_rfl) (fun _ _ _ h => h) (Or.inl ⟨by kernel_rfl, ?_⟩) (by assumption) ?_; rotate_left; focus (intro W0 hSw; have hcS := (bcell hSw).1; go_simp; (try with_reducible rfl)); (try simp only [Act.put, List.setIfInBounds_toArray, List.set_cons_zero, List.set_cons_succ])
    refine wpAnyH_inv2 (fuel := 0) [2, 3, 4, 7, 8, 9, 10] [] [8, 9, 10, 13, 14, 15, 2] (fun uT L W => Below wA.heap.size wA W ∧ (L 2 → (uT 8) = (.string (digT g))) ∧ (L 3 → (uT 9) = (.string (digT g ++ ⟨#[32]⟩))) ∧ (L 4 → FWords wA 5 romWf (uT 10) W) ∧ (L 7 → FWaddr (romWf k) (uT 13) W) ∧ (L 8 → (uT 14) = (.string (romWf k))) ∧ (L 9 → (uT 15) = (.string (digT g ++ ⟨#[32]⟩ ++ romWf k))) ∧ (L 10 → (uT 2) = (.string (digT g ++ ⟨#[32]⟩ ++ romWf k))) ∧ True) (by decide) (by kernel_rfl) (by kernel_rfl) (fun _ _ _ _ _ h => h) (fun uT L W hJ => hJ.1) (fun uT L hL => ⟨hHeld, fun k => absurd k (hL 2 (by decide)), fun k => absurd k (hL 3 (by decide)), fun k => absurd k (hL 4 (by decide)), fun k => absurd k (hL 7 (by decide)), fun k => absurd k (hL 8 (by decide)), fun k => absurd k (hL 9 (by decide)), fun k => absurd k (hL 10 (by decide)), trivial⟩) ?_ ?_ ?_
    · refine StepsH.cons (d := 8) (o := ⟨some 8, _, _, _, _, _⟩) rfl rfl (by kernel_rfl) ?_ ?_
      rotate_left
      refine StepsH.cons (d := 9) (o := ⟨some 9, _, _, _, _, _⟩) rfl rfl (by kernel_rfl) ?_ ?_
      rotate_left
      refine StepsH.cons (d := 10) (o := ⟨some 10, _, _, _, _, _⟩) rfl rfl (by kernel_rfl) ?_ ?_
      rotate_left
      refine StepsH.cons (d := 13) (o := ⟨some 13, _, _, _, _, _⟩) rfl rfl (by kernel_rfl) ?_ ?_
      rotate_left
      refine StepsH.cons (d := 14) (o := ⟨some 14, _, _, _, _, _⟩) rfl rfl (by kernel_rfl) ?_ ?_
      rotate_left
      refine StepsH.cons (d := 15) (o := ⟨some 15, _, _, _, _, _⟩) rfl rfl (by kernel_rfl) ?_ ?_
      rotate_left
      refine StepsH.cons (d := 2) (o := ⟨some 2, _, _, _, _, _⟩) rfl rfl (by kernel_rfl) ?_ ?_
      rotate_left
      exact StepsH.nil
      · intro uT L W hn hd hJ
        obtain ⟨hk, f8, f9, f10, f13, f14, f15, f2, _⟩ := hJ
        intro K hK
        simp only [puts, Act.put, List.setIfInBounds_toArray, List.set_cons_zero, List.set_cons_succ]
        go_simp; (first | (go_at_call 28; (with_reducible refine (spec_l01Number _ _ hg1).mono ?_); rintro e w9 ⟨rfl, hb⟩; have hzz := hb.size; (try simp at hzz); obtain ⟨hc, hf⟩ := bcell hb) | (go_at_call 34; (with_reducible refine (spec_l11Words _).mono ?_); rintro e w9 ⟨rfl, hb, hw9⟩; have hzz := hb.size; (try simp at hzz)))
        all_goals (try go_wp2_with fail)
        all_goals
          apply Shut.go4 (W := W) hK
          · simp only [puts, Act.put, List.setIfInBounds_toArray, List.set_cons_zero, List.set_cons_succ]; rfl
          · first | with_reducible assumption | with_reducible exact Below.refl _ _ | exact Below.alloc (Below.refl _ _) (Nat.le_refl _) _
          · intro hb; exact ⟨bstep hk hb, fun _ => upd_same _ _ _, fun k => by rw [upd_ne uT _ (by decide)]; exact (f9 (k.resolve_left (by decide))), fun k => by rw [upd_ne uT _ (by decide)]; exact FWords.later hb (f10 (k.resolve_left (by decide))), fun k => by rw [upd_ne uT _ (by decide)]; exact FWaddr.later hb (f13 (k.resolve_left (by decide))), fun k => by rw [upd_ne uT _ (by decide)]; exact (f14 (k.resolve_left (by decide))), fun k => by rw [upd_ne uT _ (by decide)]; exact (f15 (k.resolve_left (by decide))), fun k => by rw [upd_ne uT _ (by decide)]; exact (f2 (k.resolve_left (by decide))), trivial⟩
      · intro uT L W hn hd hJ
        obtain ⟨hk, f8, f9, f10, f13, f14, f15, f2, _⟩ := hJ
        obtain e8 := f8 (hd 2 (by kernel_rfl))
        intro K hK
        simp only [puts, Act.put, List.setIfInBounds_toArray, List.set_cons_zero, List.set_cons_succ, e8]
        go_simp
        all_goals (try go_wp2_with fail)
        all_goals
          apply Shut.go4 (W := W) hK
          · simp only [puts, Act.put, List.setIfInBounds_toArray, List.set_cons_zero, List.set_cons_succ, e8]; rfl
          · first | with_reducible assumption | with_reducible exact Below.refl _ _ | exact Below.alloc (Below.refl _ _) (Nat.le_refl _) _
          · intro hb; exact ⟨bstep hk hb, fun k => by rw [upd_ne uT _ (by decide)]; exact (f8 (k.resolve_left (by decide))), fun _ => upd_same _ _ _, fun k => by rw [upd_ne uT _ (by decide)]; exact FWords.later hb (f10 (k.resolve_left (by decide))), fun k => by rw [upd_ne uT _ (by decide)]; exact FWaddr.later hb (f13 (k.resolve_left (by decide))), fun k => by rw [upd_ne uT _ (by decide)]; exact (f14 (k.resolve_left (by decide))), fun k => by rw [upd_ne uT _ (by decide)]; exact (f15 (k.resolve_left (by decide))), fun k => by rw [upd_ne uT _ (by decide)]; exact (f2 (k.resolve_left (by decide))), trivial⟩
      · intro uT L W hn hd hJ
        obtain ⟨hk, f8, f9, f10, f13, f14, f15, f2, _⟩ := hJ
        intro K hK
        simp only [puts, Act.put, List.setIfInBounds_toArray, List.set_cons_zero, List.set_cons_succ]
        go_simp; (first | (go_at_call 28; (with_reducible refine (spec_l01Number _ _ hg1).mono ?_); rintro e w9 ⟨rfl, hb⟩; have hzz := hb.size; (try simp at hzz); obtain ⟨hc, hf⟩ := bcell hb) | (go_at_call 34; (with_reducible refine (spec_l11Words _).mono ?_); rintro e w9 ⟨rfl, hb, hw9⟩; have hzz := hb.size; (try simp at hzz)))
        all_goals (try go_wp2_with fail)
        all_goals
          apply Shut.go4 (W := W) hK
          · simp only [puts, Act.put, List.setIfInBounds_toArray, List.set_cons_zero, List.set_cons_succ]; rfl
          · first | with_reducible assumption | with_reducible exact Below.refl _ _ | exact Below.alloc (Below.refl _ _) (Nat.le_refl _) _
          · intro hb; exact ⟨bstep hk hb, fun k => by rw [upd_ne uT _ (by decide)]; exact (f8 (k.resolve_left (by decide))), fun k => by rw [upd_ne uT _ (by decide)]; exact (f9 (k.resolve_left (by decide))), fun _ => by rw [upd_same]; exact FWords.new (Below.size hk) hw9, fun k => by rw [upd_ne uT _ (by decide)]; exact FWaddr.later hb (f13 (k.resolve_left (by decide))), fun k => by rw [upd_ne uT _ (by decide)]; exact (f14 (k.resolve_left (by decide))), fun k => by rw [upd_ne uT _ (by decide)]; exact (f15 (k.resolve_left (by decide))), fun k => by rw [upd_ne uT _ (by decide)]; exact (f2 (k.resolve_left (by decide))), trivial⟩
      · intro uT L W hn hd hJ
        obtain ⟨hk, f8, f9, f10, f13, f14, f15, f2, _⟩ := hJ
        obtain ⟨b10, e10, bb10, lb10, cb10⟩ := f10 (hd 4 (by kernel_rfl))
        intro K hK
        simp only [puts, Act.put, List.setIfInBounds_toArray, List.set_cons_zero, List.set_cons_succ, e10]
        go_simp
        all_goals (try go_wp2_with fail)
        all_goals
          apply Shut.go4 (W := W) hK
          · simp only [puts, Act.put, List.setIfInBounds_toArray, List.set_cons_zero, List.set_cons_succ, e10]; rfl
          · first | with_reducible assumption | with_reducible exact Below.refl _ _ | exact Below.alloc (Below.refl _ _) (Nat.le_refl _) _
          · intro hb; exact ⟨bstep hk hb, fun k => by rw [upd_ne uT _ (by decide)]; exact (f8 (k.resolve_left (by decide))), fun k => by rw [upd_ne uT _ (by decide)]; exact (f9 (k.resolve_left (by decide))), fun k => by rw [upd_ne uT _ (by decide)]; exact FWords.later hb (f10 (k.resolve_left (by decide))), fun _ => by rw [upd_same]; exact ⟨_, _, rfl, lb10, cb10 _ (by omega)⟩, fun k => by rw [upd_ne uT _ (by decide)]; exact (f14 (k.resolve_left (by decide))), fun k => by rw [upd_ne uT _ (by decide)]; exact (f15 (k.resolve_left (by decide))), fun k => by rw [upd_ne uT _ (by decide)]; exact (f2 (k.resolve_left (by decide))), trivial⟩
      · intro uT L W hn hd hJ
        obtain ⟨hk, f8, f9, f10, f13, f14, f15, f2, _⟩ := hJ
        obtain ⟨b13, o13, e13, lb13, cb13⟩ := f13 (hd 7 (by kernel_rfl))
        intro K hK
        simp only [puts, Act.put, List.setIfInBounds_toArray, List.set_cons_zero, List.set_cons_succ, e13]
        go_simp
        all_goals (try go_wp2_with fail)
        all_goals
          apply Shut.go4 (W := W) hK
          · simp only [puts, Act.put, List.setIfInBounds_toArray, List.set_cons_zero, List.set_cons_succ, e13]; rfl
          · first | with_reducible assumption | with_reducible exact Below.refl _ _ | exact Below.alloc (Below.refl _ _) (Nat.le_refl _) _
          · intro hb; exact ⟨bstep hk hb, fun k => by rw [upd_ne uT _ (by decide)]; exact (f8 (k.resolve_left (by decide))), fun k => by rw [upd_ne uT _ (by decide)]; exact (f9 (k.resolve_left (by decide))), fun k => by rw [upd_ne uT _ (by decide)]; exact FWords.later hb (f10 (k.resolve_left (by decide))), fun k => by rw [upd_ne uT _ (by decide)]; exact FWaddr.later hb (f13 (k.resolve_left (by decide))), fun _ => upd_same _ _ _, fun k => by rw [upd_ne uT _ (by decide)]; exact (f15 (k.resolve_left (by decide))), fun k => by rw [upd_ne uT _ (by decide)]; exact (f2 (k.resolve_left (by decide))), trivial⟩
      · intro uT L W hn hd hJ
        obtain ⟨hk, f8, f9, f10, f13, f14, f15, f2, _⟩ := hJ
        obtain e9 := f9 (hd 3 (by kernel_rfl))
        obtain e14 := f14 (hd 8 (by kernel_rfl))
        intro K hK
        simp only [puts, Act.put, List.setIfInBounds_toArray, List.set_cons_zero, List.set_cons_succ, e9, e14]
        go_simp
        all_goals (try go_wp2_with fail)
        all_goals
          apply Shut.go4 (W := W) hK
          · simp only [puts, Act.put, List.setIfInBounds_toArray, List.set_cons_zero, List.set_cons_succ, e9, e14]; rfl
          · first | with_reducible assumption | with_reducible exact Below.refl _ _ | exact Below.alloc (Below.refl _ _) (Nat.le_refl _) _
          · intro hb; exact ⟨bstep hk hb, fun k => by rw [upd_ne uT _ (by decide)]; exact (f8 (k.resolve_left (by decide))), fun k => by rw [upd_ne uT _ (by decide)]; exact (f9 (k.resolve_left (by decide))), fun k => by rw [upd_ne uT _ (by decide)]; exact FWords.later hb (f10 (k.resolve_left (by decide))), fun k => by rw [upd_ne uT _ (by decide)]; exact FWaddr.later hb (f13 (k.resolve_left (by decide))), fun k => by rw [upd_ne uT _ (by decide)]; exact (f14 (k.resolve_left (by decide))), fun _ => upd_same _ _ _, fun k => by rw [upd_ne uT _ (by decide)]; exact (f2 (k.resolve_left (by decide))), trivial⟩
      · intro uT L W hn hd hJ
        obtain ⟨hk, f8, f9, f10, f13, f14, f15, f2, _⟩ := hJ
        obtain e15 := f15 (hd 9 (by kernel_rfl))
        intro K hK
        simp only [puts, Act.put, List.setIfInBounds_toArray, List.set_cons_zero, List.set_cons_succ, e15]
        go_simp
        all_goals (try go_wp2_with fail)
        all_goals
          apply Shut.go4 (W := W) hK
          · simp only [puts, Act.put, List.setIfInBounds_toArray, List.set_cons_zero, List.set_cons_succ, e15]; rfl
          · first | with_reducible assumption | with_reducible exact Below.refl _ _ | exact Below.alloc (Below.refl _ _) (Nat.le_refl _) _
          · intro hb; exact ⟨bstep hk hb, fun k => by rw [upd_ne uT _ (by decide)]; exact (f8 (k.resolve_left (by decide))), fun k => by rw [upd_ne uT _ (by decide)]; exact (f9 (k.resolve_left (by decide))), fun k => by rw [upd_ne uT _ (by decide)]; exact FWords.later hb (f10 (k.resolve_left (by decide))), fun k => by rw [upd_ne uT _ (by decide)]; exact FWaddr.later hb (f13 (k.resolve_left (by decide))), fun k => by rw [upd_ne uT _ (by decide)]; exact (f14 (k.resolve_left (by decide))), fun k => by rw [upd_ne uT _ (by decide)]; exact (f15 (k.resolve_left (by decide))), fun _ => upd_same _ _ _, trivial⟩
    · exact PuresH.nil
    · intro uT L W hJ hL
      obtain ⟨hk, f8, f9, f10, f13, f14, f15, f2, _⟩ := hJ
      obtain e8 := f8 (hL 2 (by kernel_rfl))
      obtain e9 := f9 (hL 3 (by kernel_rfl))
      obtain ⟨b10, e10, bb10, lb10, cb10⟩ := f10 (hL 4 (by kernel_rfl))
      obtain ⟨b13, o13, e13, lb13, cb13⟩ := f13 (hL 7 (by kernel_rfl))
      obtain e14 := f14 (hL 8 (by kernel_rfl))
      obtain e15 := f15 (hL 9 (by kernel_rfl))
      obtain e2 := f2 (hL 10 (by kernel_rfl))
      clear hHeld; have hcW := (bcell hk).1; have hfW := (bcell hk).2; have lW := Below.size hk; have hHeld := hk
      clear f8
      clear f9
      clear f10
      clear f13
      clear f14
      clear f15
      clear f2
      simp only [puts, Act.put, List.setIfInBounds_toArray, List.set_cons_zero, List.set_cons_succ, setAll, Array.replicate, e8, e9, e10, e13, e14, e15, e2]
      refine wpAnyH_done (by kernel_rfl) ?_ _; (try simp only [Act.put, List.setIfInBounds_toArray, List.set_cons_zero, List.set_cons_succ])
      go_wp2_with fail
      go_ret
      exact ⟨by rw [romTx_t ht.out]; rfl, bstep hB.out hHeld⟩
end Go.Proofs.YtnmnibpcklcmgaaDoor
