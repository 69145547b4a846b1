/- FnRoomText holds: a room is recovered from its text, for every code. What the program's text lays in the library's three tables is all that the card takes. -/
import Derived.Test.YtnmnibpcklcmgaaDoorRd
import Derived.Test.YtnmnibpcklcmgaaDoorDr
import Derived.Test.YtnmnibpcklcmgaaDoorLaw
import Derived.Test.YtnmnibpcklcmgaaDoorLb
import Derived.Test.YtnmnibpcklcmgaaDoorTie
import Derived.Test.YtnmnibpcklcmgaaDoorCards
import Derived.Laws.StructEq
import Derived.LaidMore
import Derived.OpenShut
import Derived.Stop.Joined
import Derived.SevenTiedAt
namespace Go.Proofs.YtnmnibpcklcmgaaDoor
open Go.ChangeShapes Go.WideShapes Go.ChangeAt Go.RowKit

theorem hitT_empty (T : Nat → Nat → ByteArray) (q : Nat) : hitT T ⟨#[]⟩ q = false := decide_eq_false fun k => k.1 k.2
theorem fstQ_empty (T : Nat → Nat → ByteArray) : ∀ n, fstQ (hitT T ⟨#[]⟩) n = none
  | 0 => rfl
  | n + 1 => fstQ_no (fstQ_empty T n) (hitT_empty T n)
theorem rom_back (g r : Int) (h : isRm g r = true) : rdG (fstQ (hitT romT (romTx g r)) 15) = g ∧ rdR 0 (fstQ (hitT romT (romTx g r)) 15) = r ∧ (fstQ (hitT romT (romTx g r)) 15).isSome = true := by
  obtain ⟨h1, h2⟩ := isRm_in h
  rcases (by omega : g = 0 ∨ g = 1 ∨ g = 2) with rfl | rfl | rfl <;> rcases (by omega : r = 0 ∨ r = 1 ∨ r = 2 ∨ r = 3 ∨ r = 4) with rfl | rfl | rfl | rfl | rfl
  all_goals first
    | exact absurd h (by decide)
    | exact ⟨by kernel_rfl, by kernel_rfl, by kernel_rfl⟩
theorem cmp_eql (a b c d : Int) (W : World) : (binOp .eql 31 (.agg #[.int .i64 a, .int .i64 b]) (.agg #[.int .i64 c, .int .i64 d])).run Tryd.prog W = .ok (.bool ((a == c && b == d))) W := by
  rcases b2 (a == c) with h1 | h1 <;> rcases b2 (b == d) with h2 | h2 <;> simp [run_eql_struct, run_equalIn_agg, go_sem, *]
set_option maxRecDepth 100000 in
set_option maxHeartbeats 8000000 in
theorem laws_FnRoomText (so : Option Addr) (n cap : Nat) (B : Nat → Int) (w : World) (hl : n ≤ maxLen) (h : RowAt w so n 1 (vb B)) (hB : ∀ i, 0 ≤ B i ∧ B i ≤ 255) :
    Calls Tryd.prog 7 #[.slice so n cap] w fun e w' => e = .returned (.bool true) ∧ Below w.heap.size w w' := by
  unfold maxLen at hl
  by_cases hn : 4096 < n
  · have Hd := hide (decide_eq_true hn)
    go_enter Tryd.func7, Tryd.ntmps7
    go_wp2_with (go_at_call 21; (with_reducible refine (laws_big _ _ _ _ (by omega)).mono ?_); rintro e w9 ⟨rfl, rfl⟩; rw [Hd.out])
    go_ret
    exact ⟨rfl, (by repeat (first | with_reducible exact Below.refl _ _ | with_reducible assumption | with_reducible refine Below.drew ?_ | with_reducible refine below_drewN ?_ _ | with_reducible refine Below.setCell ?_ (by first | exact Nat.le_refl _ | (simp; done) | (simp; omega) | (dsimp only; omega)) _ | with_reducible refine Below.alloc ?_ (by first | exact Nat.le_refl _ | (simp; done) | (simp; omega) | (simp at *; omega)) _ | with_reducible refine bstep ?_ (by assumption)))⟩
  have Hd := hide (decide_eq_false hn)
  have hcmp := cmp_eql
  go_enter Tryd.func7, Tryd.ntmps7
  go_wp2_with fail; (with_reducible refine (laws_big _ _ _ _ (by omega)).mono ?_); rintro e w0 ⟨rfl, rfl⟩; rw [Hd.out]
  go_wp2_with fail; (with_reducible refine (spec_DrawRoomText so n cap B _ h hB (by omega)).mono ?_); rintro e w1 ⟨⟨g, r, rfl⟩, hb1⟩; have hz1 := hb1.size
  obtain ⟨t9, ht⟩ : ∃ t, t = romTx g r := ⟨_, rfl⟩
  have K1 := hide (show ∀ W, Calls Tryd.prog 14 #[.agg #[.int .i64 g, .int .i64 r]] W fun e w' => e = .returned (.string t9) ∧ Below W.heap.size W w' from fun W => (impl_RoomText g r W).mono fun e w' k => ⟨by rw [k.1, ht], k.2⟩)
  have K2 := hide (show ∀ W, Calls Tryd.prog 12 #[.agg #[.int .i64 g, .int .i64 r]] W fun e w' => e = .returned (.string t9) ∧ Below W.heap.size W w' from fun W => (spec_RoomText g r W).mono fun e w' k => ⟨by rw [k.1, ht], k.2⟩)
  rcases b2 (isRm g r) with g1 | g1
  · have e9 : t9 = ⟨#[]⟩ := ht.trans (romTx_f g1)
    have K3 := hide (show ∀ W, Calls Tryd.prog 19 #[.string t9] W fun e w' => e = .returned (.tuple #[.agg #[.int .i64 0, .int .i64 0], .bool false]) ∧ Below W.heap.size W w' from fun W => (impl_ReadRoom t9 W).mono fun e w' k => ⟨by rw [k.1, e9, fstQ_empty]; rfl, k.2⟩)
    have K4 := hide (show ∀ W, Calls Tryd.prog 23 #[.agg #[.int .i64 g, .int .i64 r]] W fun e w' => e = .returned (.bool false) ∧ Below W.heap.size W w' from fun W => (impl_IsRoom g r W).mono fun e w' k => ⟨by rw [k.1, g1], k.2⟩)
    have hE : t9.toList.isEmpty = true := by rw [bs_emp]; exact decide_eq_true e9
    clear ht e9 g1
    go_wp2_with fail; (with_reducible refine (K1.out _).mono ?_); rintro e w2 ⟨rfl, hbw2⟩; obtain ⟨hcw2, hfw2⟩ := bcell hbw2; have hzw2 := hbw2.size; have zzw20 : w1.heap.size < w2.heap.size := (by first | omega | (simp at hzw2; omega))
    go_wp2_with fail; (with_reducible refine (K3.out _).mono ?_); rintro e w3 ⟨rfl, hbw3⟩; obtain ⟨hcw3, hfw3⟩ := bcell hbw3; have hzw3 := hbw3.size; have zzw30 : w1.heap.size < w3.heap.size := (by first | omega | (simp at hzw3; omega))
    go_wp2_with fail; (with_reducible refine (K2.out _).mono ?_); rintro e w4 ⟨rfl, hbw4⟩; obtain ⟨hcw4, hfw4⟩ := bcell hbw4; have hzw4 := hbw4.size; have zzw40 : w1.heap.size < w4.heap.size := (by first | omega | (simp at hzw4; omega)); have zzw41 : w3.heap.size < w4.heap.size := (by first | omega | (simp at hzw4; omega))
    go_wp2_with fail; (with_reducible refine (K4.out _).mono ?_); rintro e w5 ⟨rfl, hbw5⟩; obtain ⟨hcw5, hfw5⟩ := bcell hbw5; have hzw5 := hbw5.size; have zzw50 : w1.heap.size < w5.heap.size := (by first | omega | (simp at hzw5; omega)); have zzw51 : w3.heap.size < w5.heap.size := (by first | omega | (simp at hzw5; omega))
    go_wp2
    go_ret
    exact ⟨rfl, (by repeat (first | with_reducible exact Below.refl _ _ | with_reducible assumption | with_reducible refine Below.drew ?_ | with_reducible refine below_drewN ?_ _ | with_reducible refine Below.setCell ?_ (by first | exact Nat.le_refl _ | (simp; done) | (simp; omega) | (dsimp only; omega)) _ | with_reducible refine Below.alloc ?_ (by first | exact Nat.le_refl _ | (simp; done) | (simp; omega) | (simp at *; omega)) _ | with_reducible refine bstep ?_ (by assumption)))⟩
  · obtain ⟨q1, q2, q3⟩ := rom_back g r g1
    have K3 := hide (show ∀ W, Calls Tryd.prog 19 #[.string t9] W fun e w' => e = .returned (.tuple #[.agg #[.int .i64 g, .int .i64 r], .bool true]) ∧ Below W.heap.size W w' from fun W => (impl_ReadRoom t9 W).mono fun e w' k => ⟨by rw [k.1, ht, q1, q2, q3], k.2⟩)
    have K4 := hide (show ∀ W, Calls Tryd.prog 23 #[.agg #[.int .i64 g, .int .i64 r]] W fun e w' => e = .returned (.bool true) ∧ Below W.heap.size W w' from fun W => (impl_IsRoom g r W).mono fun e w' k => ⟨by rw [k.1, g1], k.2⟩)
    have hE : t9.toList.isEmpty = false := by
      rw [bs_emp]
      exact decide_eq_false fun k => by
        have h1 : t9.size = 0 := by rw [k]; rfl
        rw [ht] at h1
        unfold romTx at h1
        rw [if_pos g1, ByteArray.size_append, ByteArray.size_append, digT_size] at h1
        omega
    clear ht q1 q2 q3 g1
    go_wp2_with fail; (with_reducible refine (K1.out _).mono ?_); rintro e w2 ⟨rfl, hbw2⟩; obtain ⟨hcw2, hfw2⟩ := bcell hbw2; have hzw2 := hbw2.size; have zzw20 : w1.heap.size < w2.heap.size := (by first | omega | (simp at hzw2; omega))
    go_wp2_with fail; (with_reducible refine (K3.out _).mono ?_); rintro e w3 ⟨rfl, hbw3⟩; obtain ⟨hcw3, hfw3⟩ := bcell hbw3; have hzw3 := hbw3.size; have zzw30 : w1.heap.size < w3.heap.size := (by first | omega | (simp at hzw3; omega))
    go_wp2_with fail; (with_reducible refine (K2.out _).mono ?_); rintro e w4 ⟨rfl, hbw4⟩; obtain ⟨hcw4, hfw4⟩ := bcell hbw4; have hzw4 := hbw4.size; have zzw40 : w1.heap.size < w4.heap.size := (by first | omega | (simp at hzw4; omega)); have zzw41 : w3.heap.size < w4.heap.size := (by first | omega | (simp at hzw4; omega))
    go_wp2_with fail; (with_reducible refine (K4.out _).mono ?_); rintro e w5 ⟨rfl, hbw5⟩; obtain ⟨hcw5, hfw5⟩ := bcell hbw5; have hzw5 := hbw5.size; have zzw50 : w1.heap.size < w5.heap.size := (by first | omega | (simp at hzw5; omega)); have zzw51 : w3.heap.size < w5.heap.size := (by first | omega | (simp at hzw5; omega))
    go_wp2
    go_ret
    exact ⟨rfl, (by repeat (first | with_reducible exact Below.refl _ _ | with_reducible assumption | with_reducible refine Below.drew ?_ | with_reducible refine below_drewN ?_ _ | with_reducible refine Below.setCell ?_ (by first | exact Nat.le_refl _ | (simp; done) | (simp; omega) | (dsimp only; omega)) _ | with_reducible refine Below.alloc ?_ (by first | exact Nat.le_refl _ | (simp; done) | (simp; omega) | (simp at *; omega)) _ | with_reducible refine bstep ?_ (by assumption)))⟩

set_option maxRecDepth 100000 in
set_option maxHeartbeats 8000000 in
theorem FnRoomText_met (os : Os) (args : Array Value) : laidMetH Tryd.prog Rows.fnRoomTextRow.laid ((World.doorLaid Tryd.prog 24 os).forCall (fun _ _ => 0) ⟨#[], args, []⟩).memory :=
  laidMetH_of_parts3 (fuel := 8) (laidMet_of_run' 8 (by as_aux_lemma => kernel_rfl) (by as_aux_lemma => kernel_rfl)) (by as_aux_lemma => kernel_rfl) (by as_aux_lemma => kernel_rfl)
set_option maxRecDepth 100000 in
theorem FnRoomText_lifted (os : Os) (started : os.Started) (H : Type) (enc : TypeId × Value → H) :
    ReturnsInHanded {} Tryd.checked os 7 .any (fun w args => (Rows.fnRoomTextSpec.pre enc Tryd.prog Tryd.f7 [] false w args ∧ laidMetH Tryd.prog Rows.fnRoomTextRow.laid w) ∧ sizedMet enc Tryd.prog Tryd.f7 (OpenSpec.ofChange Rows.fnRoomTextSpec) false w args) (Rows.fnRoomTextSpec.post enc Tryd.prog Tryd.f7 false true false false) := by
  refine returnsInHanded_of_change_and (C := Tryd.checked) (X := fun w _ => laidMetH Tryd.prog Rows.fnRoomTextRow.laid w) (fun _ _ _ hh h => h.of_heap hh) Tryd.own started (by as_aux_lemma => kernel_rfl) Tryd.func7
    (ChangeSpec.witness_shaped (enc := enc) (C := Tryd.checked) (os := os) (X := fun w _ => laidMetH Tryd.prog Rows.fnRoomTextRow.laid w) false (World.doorLaid Tryd.prog 24 os) #[.slice none 0 0] 8 rfl (World.shaped_of_RefB (by as_aux_lemma => kernel_rfl) (by as_aux_lemma => kernel_rfl)) (by as_aux_lemma => kernel_rfl) (by as_aux_lemma => kernel_rfl) (by as_aux_lemma => kernel_rfl) (FnRoomText_met os _)) ?_
  intro W base args ds gs before hval0 hW _ _ hL _
  have hval : ∀ (j : Nat) t v, Tryd.f7.params[j]? = some t → args[j]? = some v → Value.okWide Tryd.prog W .any base t v := hval0
  have hW' := hW
  obtain ⟨p, q, hA0, hV, rfl, _, _⟩ := hW
  have hA : DataW.TrodAll enc Tryd.prog W 0 (fun _ => true) true Tryd.f7.params.toList args.toList ds p := hA0
  rw [Tryd.params7] at hA hval
  obtain ⟨v0, vs0, d0, ds0, p0, q0, hargs, rfl, rfl, h0, r0⟩ := trodAll_cons hA
  obtain ⟨rfl, rfl, rfl⟩ := trodAll_nil r0
  obtain rfl : args = #[v0] := by cases args; simp_all
  obtain ⟨so0, n0, cp0, B0, rfl, hl0, hr0, hB0⟩ := op_bytes (hval 0 41 v0 rfl rfl) h0
  obtain ⟨rfl, rfl⟩ := trodVars_none hV
  refine (laws_FnRoomText so0 n0 cp0 B0 W hl0 hr0 hB0).mono fun e W1 ⟨he, hb⟩ => ⟨_, he, ?_⟩
  exact law_post Tryd.laidOut (by as_aux_lemma => kernel_rfl) Tryd.underlying4 rfl rfl hW' rfl rfl rfl hb
set_option maxHeartbeats 8000000 in
theorem FnRoomText_closed : joinedFacts Tryd.prog 7 Tryd.f7 Rows.fnRoomTextSpec Rows.fnRoomTextRow = true := by
  simp only [joinedFacts, Bool.and_eq_true, Tryd.laidOut, Tryd.mapsRowed, Tryd.stopsNone, Tryd.stopKnobsNone, Tryd.plainKeysIs, Tryd.stopsHeardIs, Tryd.mayEnterIs, Tryd.liftsFinalIs, Tryd.makeIs, and_true, true_and]
  repeat' (with_reducible refine And.intro ?_ ?_)
  all_goals (as_aux_lemma => kernel_rfl)
set_option maxHeartbeats 8000000 in
/-- FnRoomText: whatever the input, the law returns true, and the input reads as it did. -/
theorem FnRoomText_row : Rows.FnRoomTextSaid :=
  OpenClaim.holds_of_wide 7 Tryd.f7 rfl rfl rfl rfl rfl rfl rfl ⟨rfl, rfl, rfl, rfl, rfl⟩ rfl rfl rfl rfl rfl (by as_aux_lemma => kernel_rfl) Tryd.func7
    FnRoomText_closed
    (of_decide_eq_true (by as_aux_lemma => kernel_rfl)) (by unfold Func.isWrapper; rw [if_neg (of_decide_eq_false (by as_aux_lemma => kernel_rfl))]; exact ⟨rfl, rfl⟩)
    (fun os started H enc _ => FnRoomText_lifted os started H enc)

set_option maxHeartbeats 8000000 in
/-- FnRoomText: the tied card. -/
theorem FnRoomText_holds : Rows.FnRoomTextCardSaid :=
  Claim7.holds_tied_plain_at .later [] [.data, .data, .data] true (true, "396906f403540a969622ff25758568b741ef9fce264be4e8998a05020f2d808e") false
    FnRoomText_row (fun _ h => by cases h) (by as_aux_lemma => kernel_rfl) (fun _ h => by cases h) fnRoomText_row_tie rfl ⟨rfl, rfl⟩ (by as_aux_lemma => kernel_rfl) rfl
    (fun f fn hf hfn => by
      obtain rfl : f = 7 := Option.some.inj ((show Tryd.prog.funcNamed Rows.fnRoomTextRow.func = some 7 by kernel_rfl).symm.trans hf) |>.symm
      obtain rfl : fn = Tryd.f7 := (Option.some.inj (Tryd.func7.symm.trans hfn)).symm
      exact ⟨by kernel_rfl, fun j t ht => by
        rw [Tryd.params7] at ht
        have hm : t ∈ [41] := by simpa using Array.mem_of_getElem? ht
        have hall : ([41].all fun u => !Tryd.prog.wantsStandIn u) = true := by kernel_rfl
        exact (show Tryd.prog.wantsStandIn t = false by simpa using List.all_eq_true.1 hall t hm)⟩)
    (by as_aux_lemma => kernel_rfl)
#print axioms FnRoomText_holds
end Go.Proofs.YtnmnibpcklcmgaaDoor
