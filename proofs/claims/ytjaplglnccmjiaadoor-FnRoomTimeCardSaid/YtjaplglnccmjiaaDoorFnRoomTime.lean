/- FnRoomTime holds: the room time of two tracks is the time at which the first of them comes to the mark; for every code. What the program's text lays in the library's table is all that the card takes. -/
import Derived.Test.YtjaplglnccmjiaaDoorYh
import Derived.Test.YtjaplglnccmjiaaDoorPr
import Derived.Test.YtjaplglnccmjiaaDoorLaw
import Derived.Test.YtjaplglnccmjiaaDoorLb
import Derived.Test.YtjaplglnccmjiaaDoorTie
import Derived.Test.YtjaplglnccmjiaaDoorCards
import Derived.Lay
import Derived.LaidMore
import Derived.OpenShut
import Derived.Stop.Joined
import Derived.SevenTiedAt
namespace Go.Proofs.YtjaplglnccmjiaaDoor
open Go.ChangeShapes Go.WideShapes Go.ChangeAt Go.RowKit

set_option maxRecDepth 100000 in
set_option maxHeartbeats 8000000 in
theorem laws_FnRoomTime (so : Option Addr) (n cap : Nat) (B : Nat → Int) (w : World) (hl : n ≤ maxLen) (h : RowAt w so n 1 (vb B)) (hB : ∀ i, 0 ≤ B i ∧ B i ≤ 255) :
    Calls Tryd.prog 4 #[.slice so n cap] w fun e w' => e = .returned (.bool true) ∧ Below w.heap.size w w' := by
  unfold maxLen at hl
  by_cases hn : 4096 < n
  · have Hd := hide (decide_eq_true hn)
    go_enter Tryd.func4, Tryd.ntmps4
    go_wp2_with (go_at_call 6; (with_reducible refine (laws_big _ _ _ _ (by omega)).mono ?_); rintro e w9 ⟨rfl, rfl⟩; rw [Hd.out])
    go_ret
    exact ⟨rfl, bwz⟩
  have Hd := hide (decide_eq_false hn)
  go_enter Tryd.func4, Tryd.ntmps4
  go_wp2_with fail; (with_reducible refine (laws_big _ _ _ _ (by omega)).mono ?_); rintro e w0 ⟨rfl, rfl⟩; rw [Hd.out]
  go_wp2_with fail; (with_reducible refine (spec_DrawRoomTime so n cap B _ h hB (by omega)).mono ?_); rintro e w1 ⟨⟨ax, ay, bx, bY, cx, cy, dx, dy, cs, m, mcap, N, X, Y, S, Z, k, so2, n2, cap2, T, U, V, so3, n3, cap3, T3, U3, V3, rfl, hm, hmc, hn2, hn3, hc, hr, hr3⟩, hb1⟩; have hz1 := hb1.size
  have HC := hide hc
  have HR := hide hr
  have HR3 := hide hr3
  have HB1 := hide hb1
  clear hc hr hr3 hb1 hB h Hd
  have K1 := fun W (hb : Below w1.heap.size w1 W) => impl_RoomTime ax ay bx bY cx cy dx dy cs m mcap N X Y S Z k so2 n2 cap2 T U V so3 n3 cap3 T3 U3 V3 W (RowAt.later hb HC.out) (by omega) hmc (RowAt.later hb HR.out) (by omega) (RowAt.later hb HR3.out) (by omega)
  have K2 := fun W (hb : Below w1.heap.size w1 W) => spec_RoomTime ax ay bx bY cx cy dx dy cs m mcap N X Y S Z k so2 n2 cap2 T U V so3 n3 cap3 T3 U3 V3 W (RowAt.later hb HC.out) (by omega) (RowAt.later hb HR.out) (by omega) (RowAt.later hb HR3.out) (by omega)
  have K3 := fun W (hb : Below w1.heap.size w1 W) => impl_ComesAt ax ay bx bY cx cy dx dy cs m mcap N X Y S Z k so2 n2 cap2 T U V W (RowAt.later hb HC.out) (by omega) hmc (RowAt.later hb HR.out) (by omega)
  have K4 := fun W (hb : Below w1.heap.size w1 W) => impl_ComesAt ax ay bx bY cx cy dx dy cs m mcap N X Y S Z k so3 n3 cap3 T3 U3 V3 W (RowAt.later hb HC.out) (by omega) hmc (RowAt.later hb HR3.out) (by omega)
  have key := rt_cases (isCo ax ay bx bY cx cy dx dy m N X Y S Z) (isTr n2 T U V) (isTr n3 T3 U3 V3) m k (cmT n2 T U V X Y Z k) (cmT n3 T3 U3 V3 X Y Z k) (bad := rmC (isCo ax ay bx bY cx cy dx dy m N X Y S Z) (isTr n2 T U V) (isTr n3 T3 U3 V3) m k (rmT n2 T U V n3 T3 U3 V3 X Y Z k)) (one := cmC (isCo ax ay bx bY cx cy dx dy m N X Y S Z) (isTr n2 T U V) m k n2 T U V X Y Z) (two := cmC (isCo ax ay bx bY cx cy dx dy m N X Y S Z) (isTr n3 T3 U3 V3) m k n3 T3 U3 V3 X Y Z) (x := sel (rmOk (isCo ax ay bx bY cx cy dx dy m N X Y S Z) (isTr n2 T U V) (isTr n3 T3 U3 V3) m k (rmT n2 T U V n3 T3 U3 V3 X Y Z k)) (rmT n2 T U V n3 T3 U3 V3 X Y Z k) 0) (a := sel (cmOk (isCo ax ay bx bY cx cy dx dy m N X Y S Z) (isTr n2 T U V) m k n2 T U V X Y Z) (cmT n2 T U V X Y Z k) 0) (b := sel (cmOk (isCo ax ay bx bY cx cy dx dy m N X Y S Z) (isTr n3 T3 U3 V3) m k n3 T3 U3 V3 X Y Z) (cmT n3 T3 U3 V3 X Y Z k) 0) rfl rfl rfl rfl rfl rfl
  generalize rmC (isCo ax ay bx bY cx cy dx dy m N X Y S Z) (isTr n2 T U V) (isTr n3 T3 U3 V3) m k (rmT n2 T U V n3 T3 U3 V3 X Y Z k) = bad at *
  generalize sel (rmOk (isCo ax ay bx bY cx cy dx dy m N X Y S Z) (isTr n2 T U V) (isTr n3 T3 U3 V3) m k (rmT n2 T U V n3 T3 U3 V3 X Y Z k)) (rmT n2 T U V n3 T3 U3 V3 X Y Z k) 0 = x at *
  generalize cmC (isCo ax ay bx bY cx cy dx dy m N X Y S Z) (isTr n2 T U V) m k n2 T U V X Y Z = one at *
  generalize cmC (isCo ax ay bx bY cx cy dx dy m N X Y S Z) (isTr n3 T3 U3 V3) m k n3 T3 U3 V3 X Y Z = two at *
  generalize sel (cmOk (isCo ax ay bx bY cx cy dx dy m N X Y S Z) (isTr n2 T U V) m k n2 T U V X Y Z) (cmT n2 T U V X Y Z k) 0 = a at *
  generalize sel (cmOk (isCo ax ay bx bY cx cy dx dy m N X Y S Z) (isTr n3 T3 U3 V3) m k n3 T3 U3 V3 X Y Z) (cmT n3 T3 U3 V3 X Y Z k) 0 = b at *
  have K1 := hide K1
  have K2 := hide K2
  have K3 := hide K3
  have K4 := hide K4
  rcases key with ⟨c1, c2 | ⟨rfl, c3⟩⟩ | ⟨rfl, rfl, rfl, c4⟩ | ⟨rfl, rfl, c3, rfl⟩ | ⟨rfl, c2, rfl, rfl⟩
  rotate_left 2
  · rcases c4 with ⟨rfl, c5⟩ | ⟨rfl, c5⟩ | ⟨rfl, rfl⟩
    all_goals
      first | (have hm : (x == min x b) = true := by simp only [beq_iff_eq]; omega) | (have hm : (x == min a x) = true := by simp only [beq_iff_eq]; omega) | skip
      go_wp2_with fail; (with_reducible refine (K1.out _ bwz).mono ?_); rintro e w2 ⟨rfl, hbw2⟩; obtain ⟨hcw2, hfw2⟩ := bcell hbw2; have hzw2 := hbw2.size; have zzw20 : w1.heap.size < w2.heap.size := (by first | omega | (simp at hzw2; omega)); have zzw21 : w1.heap.size + 1 < w2.heap.size := (by first | omega | (simp at hzw2; omega)); have zzw22 : w1.heap.size + 1 + 1 < w2.heap.size := (by first | omega | (simp at hzw2; omega))
      go_wp2_with fail; (with_reducible refine (K2.out _ bwz).mono ?_); rintro e w3 ⟨rfl, hbw3⟩; obtain ⟨hcw3, hfw3⟩ := bcell hbw3; have hzw3 := hbw3.size; have zzw30 : w1.heap.size < w3.heap.size := (by first | omega | (simp at hzw3; omega)); have zzw31 : w1.heap.size + 1 < w3.heap.size := (by first | omega | (simp at hzw3; omega)); have zzw32 : w1.heap.size + 1 + 1 < w3.heap.size := (by first | omega | (simp at hzw3; omega))
      go_wp2_with fail; (with_reducible refine (K3.out _ bwz).mono ?_); rintro e w4 ⟨rfl, hbw4⟩; obtain ⟨hcw4, hfw4⟩ := bcell hbw4; have hzw4 := hbw4.size; have zzw40 : w1.heap.size < w4.heap.size := (by first | omega | (simp at hzw4; omega)); have zzw41 : w1.heap.size + 1 < w4.heap.size := (by first | omega | (simp at hzw4; omega)); have zzw42 : w1.heap.size + 1 + 1 < w4.heap.size := (by first | omega | (simp at hzw4; omega))
      go_wp2_with fail; (with_reducible refine (K4.out _ bwz).mono ?_); rintro e w5 ⟨rfl, hbw5⟩; obtain ⟨hcw5, hfw5⟩ := bcell hbw5; have hzw5 := hbw5.size; have zzw50 : w1.heap.size < w5.heap.size := (by first | omega | (simp at hzw5; omega)); have zzw51 : w1.heap.size + 1 < w5.heap.size := (by first | omega | (simp at hzw5; omega)); have zzw52 : w1.heap.size + 1 + 1 < w5.heap.size := (by first | omega | (simp at hzw5; omega))
      have hb1 := HB1.out
      go_wp2
      go_ret
      exact ⟨rfl, bwz⟩
  all_goals
    first | (have d1 : (bad != 0) = true := bne_iff_ne.2 c1) | skip
    first | (have d2 : (one != 0) = true := bne_iff_ne.2 c2; have d3 : (one == 0) = false := beq_eq_false_iff_ne.2 c2) | skip
    first | (have d4 : (two != 0) = true := bne_iff_ne.2 c3; have d5 : (two == 0) = false := beq_eq_false_iff_ne.2 c3) | skip
    go_wp2_with fail; (with_reducible refine (K1.out _ bwz).mono ?_); rintro e w2 ⟨rfl, hbw2⟩; obtain ⟨hcw2, hfw2⟩ := bcell hbw2; have hzw2 := hbw2.size; have zzw20 : w1.heap.size < w2.heap.size := (by first | omega | (simp at hzw2; omega)); have zzw21 : w1.heap.size + 1 < w2.heap.size := (by first | omega | (simp at hzw2; omega)); have zzw22 : w1.heap.size + 1 + 1 < w2.heap.size := (by first | omega | (simp at hzw2; omega))
    go_wp2_with fail; (with_reducible refine (K2.out _ bwz).mono ?_); rintro e w3 ⟨rfl, hbw3⟩; obtain ⟨hcw3, hfw3⟩ := bcell hbw3; have hzw3 := hbw3.size; have zzw30 : w1.heap.size < w3.heap.size := (by first | omega | (simp at hzw3; omega)); have zzw31 : w1.heap.size + 1 < w3.heap.size := (by first | omega | (simp at hzw3; omega)); have zzw32 : w1.heap.size + 1 + 1 < w3.heap.size := (by first | omega | (simp at hzw3; omega))
    go_wp2_with fail; (with_reducible refine (K3.out _ bwz).mono ?_); rintro e w4 ⟨rfl, hbw4⟩; obtain ⟨hcw4, hfw4⟩ := bcell hbw4; have hzw4 := hbw4.size; have zzw40 : w1.heap.size < w4.heap.size := (by first | omega | (simp at hzw4; omega)); have zzw41 : w1.heap.size + 1 < w4.heap.size := (by first | omega | (simp at hzw4; omega)); have zzw42 : w1.heap.size + 1 + 1 < w4.heap.size := (by first | omega | (simp at hzw4; omega))
    go_wp2_with fail; (with_reducible refine (K4.out _ bwz).mono ?_); rintro e w5 ⟨rfl, hbw5⟩; obtain ⟨hcw5, hfw5⟩ := bcell hbw5; have hzw5 := hbw5.size; have zzw50 : w1.heap.size < w5.heap.size := (by first | omega | (simp at hzw5; omega)); have zzw51 : w1.heap.size + 1 < w5.heap.size := (by first | omega | (simp at hzw5; omega)); have zzw52 : w1.heap.size + 1 + 1 < w5.heap.size := (by first | omega | (simp at hzw5; omega))
    have hb1 := HB1.out
    go_wp2
    go_ret
    exact ⟨rfl, bwz⟩

set_option maxRecDepth 100000 in
theorem FnRoomTime_lifted (os : Os) (started : os.Started) (H : Type) (enc : TypeId × Value → H) :
    ReturnsInHanded {} Tryd.checked os 4 .any (fun w args => (Rows.fnRoomTimeSpec.pre enc Tryd.prog Tryd.f4 [] false w args ∧ laidMetH Tryd.prog Rows.fnRoomTimeRow.laid w) ∧ sizedMet enc Tryd.prog Tryd.f4 (OpenSpec.ofChange Rows.fnRoomTimeSpec) false w args) (Rows.fnRoomTimeSpec.post enc Tryd.prog Tryd.f4 false true false false) := by
  refine returnsInHanded_of_change_and (C := Tryd.checked) (X := fun w _ => laidMetH Tryd.prog Rows.fnRoomTimeRow.laid w) (fun _ _ _ hh h => h.of_heap hh) Tryd.own started (by as_aux_lemma => kernel_rfl) Tryd.func4
    (ChangeSpec.witness_shaped (enc := enc) (C := Tryd.checked) (os := os) (X := fun w _ => laidMetH Tryd.prog Rows.fnRoomTimeRow.laid w) false (World.laidAll Tryd.prog os Rows.fnRoomTimeRow.laid) #[.slice none 0 0] 8 (World.laidAll_os _ _ _) (World.shaped_of_ZipB (by as_aux_lemma => kernel_rfl) (by as_aux_lemma => kernel_rfl)) (by as_aux_lemma => kernel_rfl) (by as_aux_lemma => kernel_rfl) (by as_aux_lemma => kernel_rfl) (by rw [MakeChecks.laidMetH_plain _ _ _ (by as_aux_lemma => kernel_rfl)]; exact laidMet_laidAll _ (by as_aux_lemma => kernel_rfl) (by as_aux_lemma => kernel_rfl))) ?_
  intro W base args ds gs before hval0 hW _ _ hL _
  have hval : ∀ (j : Nat) t v, Tryd.f4.params[j]? = some t → args[j]? = some v → Value.okWide Tryd.prog W .any base t v := hval0
  have hW' := hW
  obtain ⟨p, q, hA0, hV, rfl, _, _⟩ := hW
  have hA : DataW.TrodAll enc Tryd.prog W 0 (fun _ => true) true Tryd.f4.params.toList args.toList ds p := hA0
  rw [Tryd.params4] at hA hval
  obtain ⟨v0, vs0, d0, ds0, p0, q0, hargs, rfl, rfl, h0, r0⟩ := trodAll_cons hA
  obtain ⟨rfl, rfl, rfl⟩ := trodAll_nil r0
  obtain rfl : args = #[v0] := by cases args; simp_all
  obtain ⟨so0, n0, cp0, B0, rfl, hl0, hr0, hB0⟩ := op_bytes (hval 0 22 v0 rfl rfl) h0
  obtain ⟨rfl, rfl⟩ := trodVars_none hV
  refine (laws_FnRoomTime so0 n0 cp0 B0 W hl0 hr0 hB0).mono fun e W1 ⟨he, hb⟩ => ⟨_, he, ?_⟩
  exact law_post Tryd.laidOut (by as_aux_lemma => kernel_rfl) Tryd.underlying4 rfl rfl hW' rfl rfl rfl hb
set_option maxHeartbeats 8000000 in
theorem FnRoomTime_closed : joinedFacts Tryd.prog 4 Tryd.f4 Rows.fnRoomTimeSpec Rows.fnRoomTimeRow = true := by
  simp only [joinedFacts, Bool.and_eq_true, Tryd.laidOut, Tryd.mapsRowed, Tryd.stopsNone, Tryd.stopKnobsNone, Tryd.plainKeysIs, Tryd.stopsHeardIs, Tryd.mayEnterIs, Tryd.liftsFinalIs, Tryd.makeIs, and_true, true_and]
  repeat' (with_reducible refine And.intro ?_ ?_)
  all_goals (as_aux_lemma => kernel_rfl)
set_option maxHeartbeats 8000000 in
/-- FnRoomTime: whatever the input, the law returns true, and the input reads as it did. -/
theorem FnRoomTime_row : Rows.FnRoomTimeSaid :=
  OpenClaim.holds_of_wide 4 Tryd.f4 rfl rfl rfl rfl rfl rfl rfl ⟨rfl, rfl, rfl, rfl, rfl⟩ rfl rfl rfl rfl rfl (by as_aux_lemma => kernel_rfl) Tryd.func4
    FnRoomTime_closed
    (of_decide_eq_true (by as_aux_lemma => kernel_rfl)) (by unfold Func.isWrapper; rw [if_neg (of_decide_eq_false (by as_aux_lemma => kernel_rfl))]; exact ⟨rfl, rfl⟩)
    (fun os started H enc _ => FnRoomTime_lifted os started H enc)

set_option maxHeartbeats 8000000 in
/-- FnRoomTime: the tied card. -/
theorem FnRoomTime_holds : Rows.FnRoomTimeCardSaid :=
  Claim7.holds_tied_plain_at .later [] [.data, .pinned] true (true, "ea413e7f247a4600454711ac733897b11d6410e5f0be8d7defa03a0cf2566ad9") false
    FnRoomTime_row (fun _ h => by cases h) (by as_aux_lemma => kernel_rfl) (fun _ h => by cases h) fnRoomTime_row_tie rfl ⟨rfl, rfl⟩ (by as_aux_lemma => kernel_rfl) rfl
    (fun f fn hf hfn => by
      obtain rfl : f = 4 := Option.some.inj ((show Tryd.prog.funcNamed Rows.fnRoomTimeRow.func = some 4 by kernel_rfl).symm.trans hf) |>.symm
      obtain rfl : fn = Tryd.f4 := (Option.some.inj (Tryd.func4.symm.trans hfn)).symm
      exact ⟨by kernel_rfl, fun j t ht => by
        rw [Tryd.params4] at ht
        have hm : t ∈ [22] := by simpa using Array.mem_of_getElem? ht
        have hall : ([22].all fun u => !Tryd.prog.wantsStandIn u) = true := by kernel_rfl
        exact (show Tryd.prog.wantsStandIn t = false by simpa using List.all_eq_true.1 hall t hm)⟩)
    (by as_aux_lemma => kernel_rfl)
#print axioms FnRoomTime_holds
end Go.Proofs.YtjaplglnccmjiaaDoor
