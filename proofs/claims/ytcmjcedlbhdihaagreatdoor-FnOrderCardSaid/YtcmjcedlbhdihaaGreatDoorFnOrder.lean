/- FnOrder holds: the order of boats contains each boat once, and no boat comes behind one that has reached fewer stations; for every code. What the program's text lays in the library's table is all that the card takes. -/
import Derived.Test.YtcmjcedlbhdihaaGreatDoorYo
import Derived.Test.YtcmjcedlbhdihaaGreatDoorPo
import Derived.Test.YtcmjcedlbhdihaaGreatDoorXq
import Derived.Test.YtcmjcedlbhdihaaGreatDoorOa
import Derived.Test.YtcmjcedlbhdihaaGreatDoorLh
import Derived.Test.YtcmjcedlbhdihaaGreatDoorMk
import Derived.Test.YtcmjcedlbhdihaaGreatDoorLaw
import Derived.Test.YtcmjcedlbhdihaaGreatDoorTie
import Derived.Test.YtcmjcedlbhdihaaGreatDoorCards
import Derived.Lay
import Derived.LaidMore
import Derived.OpenShut
import Derived.Stop.Joined
import Derived.SevenTiedAt
namespace Go.Proofs.YtcmjcedlbhdihaaGreatDoor
open Go.ChangeShapes Go.WideShapes Go.ChangeAt Go.RowKit

theorem oaC_zero {n : Nat} {z : Int} (h : oaC n z = 0) : ¬ 16 < n ∧ z = 0 := by
 unfold oaC at h
 split at h
 ·exact absurd h (by decide)
 ·exact ⟨by assumption, h⟩
theorem oaL_len (F : Nat → List Int) (t : Int) (n : Nat) (c : Int) : (oaL F t n c).length ≤ n := by
 unfold oaL
 split
 ·rw [srtL_len]; exact Nat.le_refl _
 ·exact Nat.zero_le _
/-- What is known of the answer. -/
theorem ord_all (F : Nat → List Int) (t : Int) (n : Nat) : ∃ S : Nat → Nat, (∀ k, k < n → S k < n ∧ (oaL F t n 0)[k]?.getD 0 = ((S k : Nat) : Int)) ∧ (oaL F t n 0).length = n ∧ (∀ i, i < n → (i : Int) ∈ oaL F t n 0) ∧
 ∀ k, k + 1 < n → cntL (F (S (k + 1))) t (F (S (k + 1))).length ≤ cntL (F (S k)) t (F (S k)).length := by
 rw [oaL_ok]
 refine ⟨srtF (ahB (oaM F t) (oaT F t)) n, fun k hk => ⟨srtF_lt _ n k hk, srtL_at _ hk⟩, srtL_len _ _, fun i hi => ?_, fun k hk => ?_⟩
 ·obtain ⟨k, hk, e⟩ := srtF_has (ahB (oaM F t) (oaT F t)) n i hi
  have h1 := srtL_at (ahB (oaM F t) (oaT F t)) hk
  have hl : k < (srtL (ahB (oaM F t) (oaT F t)) n).length := by rw [srtL_len]; exact hk
  rw [List.getElem?_eq_getElem hl, Option.getD_some, e] at h1
  rw [← h1]
  exact List.getElem_mem hl
 ·have := srtF_ord (oaM F t) (oaT F t) n k hk
  unfold oaM at this
  exact Int.ofNat_le.1 this
set_option maxRecDepth 100000 in
set_option maxHeartbeats 8000000 in
theorem laws_FnOrder (so : Option Addr) (n cap : Nat) (B : Nat → Int) (w : World) (hl : n ≤ maxLen) (h : RowAt w so n 1 (vb B)) (hB : ∀ i, 0 ≤ B i ∧ B i ≤ 255) :
 Calls Tryz.prog 3 #[.slice so n cap] w fun e w' => e = .returned (.bool true) ∧ Below w.heap.size w w' := by
 unfold maxLen at hl
 by_cases hn : 4096 < n
 ·have Hd := hide (decide_eq_true hn)
  go_enter Tryz.func3, Tryz.ntmps3
  go_wp2_with (go_at_call 4; (with_reducible refine (laws_big _ _ _ _ (by omega)).mono ?_); rintro e w9 ⟨rfl, rfl⟩; rw [Hd.out])
  go_ret
  exact ⟨rfl, bwz⟩
 have Hd := hide (decide_eq_false hn)
 go_enter Tryz.func3, Tryz.ntmps3
 go_wp2_with fail; (with_reducible refine (laws_big _ _ _ _ (by omega)).mono ?_); rintro e w0 ⟨rfl, rfl⟩; rw [Hd.out]
 go_wp2_with fail; (with_reducible refine (spec_DrawOrderAt so n cap B _ h hB (by omega)).mono ?_); rintro e w1 ⟨⟨ax, ay, bx, bY, cx, cy, dx, dy, cs, m, mcap, N, X, Y, S, Z, tm, so2, n2, cap2, A, nn, C, T, U, V, rfl, hm, hmc, hn2, hnn, hc, hr⟩, hb1⟩; have hz1 := hb1.size
 have HC := hide hc
 have HR := hide hr
 have HB1 := hide hb1
 clear hc hr hb1 hB h Hd
 have KI := hide (fun W (hb : Below w1.heap.size w1 W) => impl_OrderAt ax ay bx bY cx cy dx dy cs m mcap N X Y S Z so2 n2 cap2 A nn C T U V tm W (RowAt.later hb HC.out) (by omega) hmc (Trs.later hb HR.out) (by omega) (fun i hi => by have := hnn i hi; omega))
 have KS := hide (fun W (hb : Below w1.heap.size w1 W) => spec_OrderAt ax ay bx bY cx cy dx dy cs m mcap N X Y S Z so2 n2 cap2 A nn C T U V tm W (RowAt.later hb HC.out) (by omega) (Trs.later hb HR.out) (by omega) (fun i hi => by have := hnn i hi; omega))
 obtain ⟨c9, hc9⟩ : ∃ x, x = oaC n2 (tsC (isCo ax ay bx bY cx cy dx dy m N X Y S Z) (allTr nn T U V n2) (lnsOk (lnA ax ay bx bY cx cy dx dy m X Y S Z) (lnB ax ay bx bY cx cy dx dy m X Y S Z) (lnC ax ay bx bY cx cy dx dy m X Y S Z) (lnD ax ay bx bY cx cy dx dy m X Y S Z) (m + 1))) := ⟨_, rfl⟩
 obtain ⟨Fx, hFx⟩ : ∃ f : Nat → List Int, f = (fun j => (tmS (lnA ax ay bx bY cx cy dx dy m X Y S Z) (lnB ax ay bx bY cx cy dx dy m X Y S Z) (lnC ax ay bx bY cx cy dx dy m X Y S Z) (lnD ax ay bx bY cx cy dx dy m X Y S Z) (T j) (U j) (V j) (nn j) (m + 2)).1) := ⟨_, rfl⟩
 rw [← hc9, ← hFx] at KI KS
 have KRa := hide (show c9 = 0 → ∀ j, j < n2 → ∀ W, Below w1.heap.size w1 W → Calls Tryz.prog 10 #[.agg #[.int .i64 ax, .int .i64 ay, .int .i64 bx, .int .i64 bY, .int .i64 cx, .int .i64 cy, .int .i64 dx, .int .i64 dy, .slice cs m mcap], .agg #[.slice (A j) (nn j) (C j)], .int .i64 tm] W fun e w' => e = .returned (.tuple #[.int .i64 ((cntL (Fx j) tm (Fx j).length : Nat) : Int), .int .i64 0]) ∧ Below W.heap.size W w' from fun z j hj W hb => by
  obtain ⟨_, z2⟩ := oaC_zero (hc9.symm.trans z)
  obtain ⟨hco, htr, hl⟩ := tsC_z z2
  have h9 := impl_ReachedAt ax ay bx bY cx cy dx dy cs m mcap N X Y S Z (A j) (nn j) (C j) (T j) (U j) (V j) tm W (RowAt.later hb HC.out) (by omega) hmc (RowAt.later hb (HR.out.2 j hj)) (by have := hnn j hj; omega)
  rw [hco, allTr_at hj htr, tsL_ok hl, hl] at h9
  rw [hFx]
  exact h9)
 have hle := oaL_len Fx tm n2 c9
 have hall := ord_all Fx tm n2
 have hcl : ∀ j, cntL (Fx j) tm (Fx j).length ≤ m + 2 := fun j => by rw [hFx]; exact Nat.le_trans (cntL_le _ _ _) (tmS_len (lnA ax ay bx bY cx cy dx dy m X Y S Z) (lnB ax ay bx bY cx cy dx dy m X Y S Z) (lnC ax ay bx bY cx cy dx dy m X Y S Z) (lnD ax ay bx bY cx cy dx dy m X Y S Z) (T j) (U j) (V j) (nn j) (m + 2)).1
 clear hc9 hFx
 obtain ⟨Lx, hLx⟩ : ∃ x, x = oaL Fx tm n2 c9 := ⟨_, rfl⟩
 rw [← hLx] at KI KS hle
 have HLX := hide hLx
 clear hLx
 go_wp2_with fail; (with_reducible refine (KI.out _ bwz).mono ?_); rintro e w2 ⟨so4, cp4, rfl, ho4, hb2⟩; obtain ⟨hc2, hf2⟩ := bcell hb2; have hz2 := hb2.size
 have y20 : w1.heap.size < w2.heap.size := by first | omega | (simp at hz2; omega)
 have H4 := hide (show RowAt w2 so4 Lx.length 1 (vI Lx) from OwZ.read ho4)
 clear ho4
 go_wp2_with fail; (with_reducible refine (KS.out _ bwz).mono ?_); rintro e w3 ⟨so5, cp5, rfl, ho5, hb3⟩; obtain ⟨hc3, hf3⟩ := bcell hb3; have hz3 := hb3.size
 have y30 : w1.heap.size < w3.heap.size := by omega
 have H5 := hide ho5
 have HL := hide (fun W (hb : Below w3.heap.size w3 W) => laws_likeInts so4 so5 Lx.length cp4 cp5 _ W (RowAt.v1k (RowAt.later hb (RowAt.later hb3 H4.out))) (RowAt.v1k (RowAt.later hb (show RowAt w3 so5 Lx.length 1 (vI Lx) from OwZ.read H5.out))) (by omega))
 have C0 := hide (show CoAt w3 w1.heap.size ax ay bx bY cx cy dx dy cs m mcap from ⟨by go_simp, by go_simp, by go_simp, by go_simp, by go_simp, by go_simp, by go_simp, by go_simp, by go_simp⟩)
 have HB3 := hide (show Below w1.heap.size w1 w3 from bwz)
 clear hc2 hf2 hc3 hf3 hb2 hb3 ho5 KI KS H4
 go_wp2_with fail; (with_reducible refine (HL.out _ (Below.refl _ _)).mono ?_); rintro e w4 ⟨rfl, hb4⟩
 have HB4 := hide (bstep HB3.out hb4)
 have C4 := hide (CoAt.later hb4 C0.out)
 have H54 := hide (H5.out.later hb4)
 clear hb4 HB3 C0 H5 HL
 by_cases hz : c9 = 0
 case neg =>
  have d1 : (c9 != 0) = true := bne_iff_ne.2 hz
  clear hall KRa
  go_wp2
  go_ret
  exact ⟨rfl, HB1.out.trans (HB4.out.mono hz1)⟩
 subst hz
 have KRb := hide (KRa.out rfl)
 clear KRa
 rw [← HLX.out] at hall
 obtain ⟨Sf, s1, s2, s3, s4⟩ := hall
 have S1 := hide s1
 have S3 := hide s3
 obtain ⟨Mv, hMv⟩ : ∃ f : Nat → Nat, f = fun j => cntL (Fx j) tm (Fx j).length := ⟨_, rfl⟩
 have KRc := hide (show ∀ j, j < n2 → ∀ W, Below w1.heap.size w1 W → Calls Tryz.prog 10 #[.agg #[.int .i64 ax, .int .i64 ay, .int .i64 bx, .int .i64 bY, .int .i64 cx, .int .i64 cy, .int .i64 dx, .int .i64 dy, .slice cs m mcap], .agg #[.slice (A j) (nn j) (C j)], .int .i64 tm] W fun e w' => e = .returned (.tuple #[.int .i64 ((Mv j : Nat) : Int), .int .i64 0]) ∧ Below W.heap.size W w' by rw [hMv]; exact KRb.out)
 clear KRb
 have S4 := hide (show ∀ k, k + 1 < n2 → Mv (Sf (k + 1)) ≤ Mv (Sf k) by rw [hMv]; exact s4)
 have SM := hide (show ∀ j, Mv j ≤ m + 2 by rw [hMv]; exact hcl)
 obtain ⟨g5, hg5, hr5⟩ := OwZ.gets H54.out
 have hs5 : Lx.length = 0 ∨ so5 = some ⟨g5, 0, none⟩ := hg5.imp id (·.1)
 have HR5 := hide hr5
 have H55 := hide (show RowAt w4 so5 Lx.length 1 (vI Lx) from OwZ.read H54.out)
 have hll : Lx.length ≤ n2 := by omega
 have hlu : n2 ≤ Lx.length := by omega
 have d2 : ((Lx.length : Int) == (n2 : Int)) = true := beq_iff_eq.2 (by omega)
 clear s1 s2 s3 s4 hMv hcl hg5 hr5 H54 HLX hle
 go_wp2
 go_loopw [10, 11] (fun v i wr => ∃ k l : Nat, k ≤ n2 ∧ i = .int .i64 (k : Int) ∧ v = .int .i64 (l : Int) ∧ Hid (0 < k → l = Mv (Sf (k - 1))) ∧ Hid (Below w4.heap.size w4 wr)) (fun _ i _ => n2 - (intOf i).toNat)
 case atStart => exact ⟨0, 0, Nat.zero_le _, rfl, rfl, hide (fun h => absurd h (Nat.lt_irrefl _)), hide (Below.refl _ _)⟩
 case round =>
  obtain ⟨k, l, hk, rfl, rfl, HK, HBr⟩ := hrel
  have zr := HBr.out.size
  by_cases hlt : k < n2
  ·obtain ⟨hSk, hxk⟩ := S1.out k hlt
   obtain rfl : so5 = some ⟨g5, 0, none⟩ := hs5.resolve_left (by omega)
   have hk0 : (0 : Int) ≤ (k : Int) := by omega
   have hk1 : (k : Int) < (Lx.length : Int) := by omega
   have hk2 : k < Lx.length := by omega
   have hkM := HK.out
   have hM4 : 0 < k → Mv (Sf k) ≤ Mv (Sf (k - 1)) := fun h0 => by
    have := S4.out (k - 1) (by omega)
    rwa [show k - 1 + 1 = k by omega] at this
   have KH := hide (fun W (hb : Below w4.heap.size w4 W) => (laws_hasInt (some ⟨g5, 0, none⟩) cp5 Lx (k : Int) W (RowAt.later hb H55.out) (by omega)).mono fun e w' (h : e = .returned (.bool (decide ((k : Int) ∈ Lx))) ∧ Below W.heap.size W w') => (show e = .returned (.bool true) ∧ Below W.heap.size W w' from ⟨h.1.trans (by rw [decide_eq_true (S3.out k hlt)]), h.2⟩))
   go_wp2_with fail; (with_reducible refine (KH.out _ HBr.out).mono ?_); rintro e w5 ⟨rfl, hb5⟩
   have HB5 := hide (bstep HBr.out hb5)
   have z5 := HB5.out.size
   obtain ⟨o0, o1, o2, o3, o4, o5', o6, o7, o8⟩ := CoAt.later HB5.out C4.out
   have ck := cell_later HB5.out (HR5.out k hk2)
   have hxk' : lgt Lx k = ((Sf k : Nat) : Int) := hxk
   rw [hxk'] at ck
   obtain ⟨j, hj⟩ : ∃ j, j = Sf k := ⟨_, rfl⟩
   rw [← hj] at ck hSk hM4
   obtain ⟨bs, os, rfl, hbs, ht⟩ := HR.out.at j hSk
   have ct := cell_later (HB4.out.trans (HB5.out.mono (by have := HB4.out.size; omega))) ht
   have KR2 := hide (KRc.out j hSk)
   have hMj := SM.out j
   have HJ := hide hj
   obtain ⟨mj, hmj⟩ : ∃ x, x = Mv j := ⟨_, rfl⟩
   rw [← hmj] at KR2 hM4 hMj
   have HMJ := hide hmj
   have hj0 : (0 : Int) ≤ (j : Int) := by omega
   have hj1 : (j : Int) < (n2 : Int) := by omega
   have hW1 := hide (HB4.out.trans (HB5.out.mono (by have := HB4.out.size; omega)))
   have zg5 : g5 < w5.heap.size := World.block_lt_of_cell? _ _ ck
   have zgs : bs < w5.heap.size := World.block_lt_of_cell? _ _ ct
   have zgc : w1.heap.size < w5.heap.size := World.block_lt_of_cell? _ _ o0
   clear hxk hxk' hj hmj hb5 KH
   go_upto_region 16 with fail
   refine wp_region_held_drew (S := fun W => Below w5.heap.size w5 W) (by kernel_rfl) (Below.drew (Below.refl _ _)) (fun hHeld => ?_)
   refine tkL 0 (some 58) rfl ?_; simp only [pz]
   refine tkN 1 (some 59) rfl ?_; simp only [pz]
   refine tkN 2 (some 60) rfl ?_; simp only [pz]
   refine tkN 3 (some 61) rfl ?_; simp only [pz]
   refine tkN 4 (some 62) rfl ?_; simp only [pz]
   refine tkL 5 (some 63) rfl ?_; simp only [pz]
   refine tkN 6 (some 64) rfl ?_; simp only [pz]
   refine tkL 7 (some 65) rfl ?_; simp only [pz]
   refine tkN 8 (some 66) rfl ?_; simp only [pz]
   refine rd1 9 (some 67) rfl (fun K hK => ?_)
   go_simp; (go_at_call 10; (with_reducible refine (KR2.out _ (bstep hW1.out hHeld)).mono ?_); rintro e w9 ⟨rfl, hb⟩)
   all_goals (try go_wp2_with fail)
   refine hK.out _ _ ?_ (fun hH2 => ?_)
   ·exact hhz
   clear hK K hHeld; (have hHeld := hH2); clear hH2; (try simp only [pz])
   refine tkN 10 (some 57) rfl ?_; simp only [pz]
   refine tkN 11 (some 68) rfl ?_; simp only [pz]
   refine tkN 12 (some 69) rfl ?_; simp only [pz]
   refine tkN 13 (some 12) rfl ?_; simp only [pz]
   refine tkN 14 (some 13) rfl ?_; simp only [pz]
   refine wpAnyH_done (by kernel_rfl) ?_ _; (try simp only [pz])
   have HB6 := hide (bstep HB5.out hHeld)
   clear o0 o1 o2 o3 o4 o5' o6 o7 o8 ck ct
   by_cases hkz : k = 0
   ·have dk : ¬ 0 < k := by omega
    have HN := hide (show 0 < k + 1 → mj = Mv (Sf (k + 1 - 1)) from fun _ => by rw [Nat.add_sub_cancel, ← HJ.out]; exact HMJ.out)
    clear hkz hM4 hkM
    go_wp2
    go_roundw
    case rel => exact ⟨k + 1, mj, by omega, by go_num, rfl, HN, HB6⟩
    case measure => simp [intOf]; omega
   ·have dk : 0 < k := by omega
    have HN := hide (show 0 < k + 1 → mj = Mv (Sf (k + 1 - 1)) from fun _ => by rw [Nat.add_sub_cancel, ← HJ.out]; exact HMJ.out)
    have hle := hM4 dk
    rw [← hkM dk] at hle
    have hni : ¬ (l : Int) < (mj : Int) := by omega
    have hnn' : ¬ l < mj := by omega
    clear hkz hM4 hkM hle
    go_wp2
    go_roundw
    case rel => exact ⟨k + 1, mj, by omega, by go_num, rfl, HN, HB6⟩
    case measure => simp [intOf]; omega
  ·have hke : ¬ (k : Int) < (Lx.length : Int) := by omega
   go_wp2
   go_ret
   exact ⟨rfl, HB1.out.trans ((HB4.out.trans (HBr.out.mono (by have := HB4.out.size; omega))).mono hz1)⟩

set_option maxRecDepth 100000 in
theorem FnOrder_lifted (os : Os) (started : os.Started) (H : Type) (enc : TypeId × Value → H) :
 ReturnsInHanded {} Tryz.checked os 3 .any (fun w args => (Rows.fnOrderSpec.pre enc Tryz.prog Tryz.f3 [] false w args ∧ laidMetH Tryz.prog Rows.fnOrderRow.laid w) ∧ sizedMet enc Tryz.prog Tryz.f3 (OpenSpec.ofChange Rows.fnOrderSpec) false w args) (Rows.fnOrderSpec.post enc Tryz.prog Tryz.f3 false true false false) := by
 refine returnsInHanded_of_change_and (C := Tryz.checked) (X := fun w _ => laidMetH Tryz.prog Rows.fnOrderRow.laid w) (fun _ _ _ hh h => h.of_heap hh) Tryz.own started (by as_aux_lemma => kernel_rfl) Tryz.func3
  (ChangeSpec.witness_shaped (enc := enc) (C := Tryz.checked) (os := os) (X := fun w _ => laidMetH Tryz.prog Rows.fnOrderRow.laid w) false (World.laidAll Tryz.prog os Rows.fnOrderRow.laid) #[.slice none 0 0] 8 (World.laidAll_os _ _ _) (World.shaped_of_ZipB (by as_aux_lemma => kernel_rfl) (by as_aux_lemma => kernel_rfl)) (by as_aux_lemma => kernel_rfl) (by as_aux_lemma => kernel_rfl) (by as_aux_lemma => kernel_rfl) (by rw [MakeChecks.laidMetH_plain _ _ _ (by as_aux_lemma => kernel_rfl)]; exact laidMet_laidAll _ (by as_aux_lemma => kernel_rfl) (by as_aux_lemma => kernel_rfl))) ?_
 intro W base args ds gs before hval0 hW _ _ hL _
 have hval : ∀ (j : Nat) t v, Tryz.f3.params[j]? = some t → args[j]? = some v → Value.okWide Tryz.prog W .any base t v := hval0
 have hW' := hW
 obtain ⟨p, q, hA0, hV, rfl, _, _⟩ := hW
 have hA : DataW.TrodAll enc Tryz.prog W 0 (fun _ => true) true Tryz.f3.params.toList args.toList ds p := hA0
 rw [Tryz.params3] at hA hval
 obtain ⟨v0, vs0, d0, ds0, p0, q0, hargs, rfl, rfl, h0, r0⟩ := trodAll_cons hA
 obtain ⟨rfl, rfl, rfl⟩ := trodAll_nil r0
 obtain rfl : args = #[v0] := by cases args; simp_all
 obtain ⟨so0, n0, cp0, B0, rfl, hl0, hr0, hB0⟩ := op_bytes (hval 0 22 v0 rfl rfl) h0
 obtain ⟨rfl, rfl⟩ := trodVars_none hV
 refine (laws_FnOrder so0 n0 cp0 B0 W hl0 hr0 hB0).mono fun e W1 ⟨he, hb⟩ => ⟨_, he, ?_⟩
 exact law_post Tryz.laidOut (by as_aux_lemma => kernel_rfl) Tryz.underlying4 rfl rfl hW' rfl rfl rfl hb
set_option maxHeartbeats 8000000 in
theorem FnOrder_closed : joinedFacts Tryz.prog 3 Tryz.f3 Rows.fnOrderSpec Rows.fnOrderRow = true := by
 simp only [joinedFacts, Bool.and_eq_true, Tryz.laidOut, Tryz.mapsRowed, Tryz.stopsNone, Tryz.stopKnobsNone, Tryz.plainKeysIs, Tryz.stopsHeardIs, Tryz.mayEnterIs, Tryz.liftsFinalIs, Tryz.makeIs, and_true]
 repeat' (with_reducible refine And.intro ?_ ?_)
 all_goals (as_aux_lemma => kernel_rfl)
set_option maxHeartbeats 8000000 in
/-- FnOrder: whatever the input, the law returns true, and the input reads as it did. -/
theorem FnOrder_row : Rows.FnOrderSaid :=
 OpenClaim.holds_of_wide 3 Tryz.f3 rfl rfl rfl rfl rfl rfl rfl ⟨rfl, rfl, rfl, rfl, rfl⟩ rfl rfl rfl rfl rfl (by as_aux_lemma => kernel_rfl) Tryz.func3
  FnOrder_closed
  (of_decide_eq_true (by as_aux_lemma => kernel_rfl)) (by unfold Func.isWrapper; rw [if_neg (of_decide_eq_false (by as_aux_lemma => kernel_rfl))]; exact ⟨rfl, rfl⟩)
  (fun os started H enc _ => FnOrder_lifted os started H enc)

set_option maxHeartbeats 8000000 in
/-- FnOrder: the tied card. -/
theorem FnOrder_holds : Rows.FnOrderCardSaid :=
 Claim7.holds_tied_plain_at .later [] [.data, .pinned] true (true, "18c96df838a232351f37331678e95f98677217b23bda88da02e02655cb34bb3d") false
  FnOrder_row (fun _ h => by cases h) (by as_aux_lemma => kernel_rfl) (fun _ h => by cases h) fnOrder_row_tie rfl ⟨rfl, rfl⟩ (by as_aux_lemma => kernel_rfl) rfl
  (fun f fn hf hfn => by
   obtain rfl : f = 3 := Option.some.inj ((show Tryz.prog.funcNamed Rows.fnOrderRow.func = some 3 by kernel_rfl).symm.trans hf) |>.symm
   obtain rfl : fn = Tryz.f3 := (Option.some.inj (Tryz.func3.symm.trans hfn)).symm
   exact ⟨by kernel_rfl, fun j t ht => by
    rw [Tryz.params3] at ht
    have hm : t ∈ [22] := by simpa using Array.mem_of_getElem? ht
    have hall : ([22].all fun u => !Tryz.prog.wantsStandIn u) = true := by kernel_rfl
    exact (show Tryz.prog.wantsStandIn t = false by simpa using List.all_eq_true.1 hall t hm)⟩)
  (by as_aux_lemma => kernel_rfl)
#print axioms FnOrder_holds
end Go.Proofs.YtcmjcedlbhdihaaGreatDoor
