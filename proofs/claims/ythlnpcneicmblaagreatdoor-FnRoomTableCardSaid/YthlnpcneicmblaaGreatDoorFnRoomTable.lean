/- FnRoomTable holds: of two boats at most one has to give room to the other one; for every code. What the program's text lays in the library's table is all that the card takes. -/
import Derived.Test.YthlnpcneicmblaaGreatDoorYs
import Derived.Test.YthlnpcneicmblaaGreatDoorLh
import Derived.Test.YthlnpcneicmblaaGreatDoorLaw
import Derived.Test.YthlnpcneicmblaaGreatDoorTie
import Derived.Test.YthlnpcneicmblaaGreatDoorCards
import Derived.Lay
import Derived.LaidMore
import Derived.OpenShut
import Derived.Stop.Joined
import Derived.SevenTiedAt
namespace Go.Proofs.YthlnpcneicmblaaGreatDoor
open Go.ChangeShapes Go.WideShapes Go.ChangeAt Go.RowKit

/-- A new block of two numbers, behind a call. -/
theorem box2 {w W : World} {t : TypeId} (hb : Below (w.alloc (.cells #[.int .i64 0, .int .i64 0] t)).heap.size (w.alloc (.cells #[.int .i64 0, .int .i64 0] t)) W) : W.cell? ⟨w.heap.size, 0, none⟩ = some (.int .i64 0) ∧ W.cell? ⟨w.heap.size, 1, none⟩ = some (.int .i64 0) ∧ W.frozen? ⟨w.heap.size, 0, none⟩ = false ∧ W.frozen? ⟨w.heap.size, 1, none⟩ = false :=
 ⟨(hb.cell (p := ⟨w.heap.size, 0, none⟩) (by simp)).trans (by go_simp), (hb.cell (p := ⟨w.heap.size, 1, none⟩) (by simp)).trans (by go_simp), (hb.frozen (p := ⟨w.heap.size, 0, none⟩) (by simp)).trans (by go_simp), (hb.frozen (p := ⟨w.heap.size, 1, none⟩) (by simp)).trans (by go_simp)⟩
theorem box2d {w W : World} {t : TypeId} (hb : Below (w.alloc (.cells #[.int .i64 0, .int .i64 0] t)).drew.heap.size (w.alloc (.cells #[.int .i64 0, .int .i64 0] t)).drew W) : W.cell? ⟨w.heap.size, 0, none⟩ = some (.int .i64 0) ∧ W.cell? ⟨w.heap.size, 1, none⟩ = some (.int .i64 0) ∧ W.frozen? ⟨w.heap.size, 0, none⟩ = false ∧ W.frozen? ⟨w.heap.size, 1, none⟩ = false :=
 ⟨(hb.cell (p := ⟨w.heap.size, 0, none⟩) (by simp)).trans (by go_simp), (hb.cell (p := ⟨w.heap.size, 1, none⟩) (by simp)).trans (by go_simp), (hb.frozen (p := ⟨w.heap.size, 0, none⟩) (by simp)).trans (by go_simp), (hb.frozen (p := ⟨w.heap.size, 1, none⟩) (by simp)).trans (by go_simp)⟩
/-- What the rooms of a table say. -/
theorem tab_all {wx wy x y z : Int} {nn : Nat → Nat} {T U V : Nat → Nat → Int} {len : Int} {n : Nat} (h2 : 2 ≤ n) (R : Nat → List Int) (hR : R = fun j => kcL (rbQ wx wy x y z nn T U V len) j n) :
 (∀ k, (R k).length ≤ n) ∧ (∀ k d, k < n → d < (R k).length → ∃ j : Nat, j < n ∧ (R k)[d]?.getD 0 = (j : Int) ∧ ¬ (k : Int) ∈ R j) ∧
 ∃ b c : Bool, decide ((1 : Int) ∈ R 0) = b ∧ ((rmA wx wy x y z (nn 0) (T 0) (U 0) (V 0) (nn 1) (T 1) (U 1) (V 1) len).1 == 1) = b ∧ decide ((0 : Int) ∈ R 1) = c ∧ ((rmA wx wy x y z (nn 0) (T 0) (U 0) (V 0) (nn 1) (T 1) (U 1) (V 1) len).1 == 2) = c := by
 subst hR
 refine ⟨fun k => kcL_len _ _ _, fun k d hk hd => ?_, ?_⟩
 ·have hm : (kcL (rbQ wx wy x y z nn T U V len) k n)[d]?.getD 0 ∈ kcL (rbQ wx wy x y z nn T U V len) k n := by
   rw [List.getElem?_eq_getElem hd, Option.getD_some]; exact List.getElem_mem hd
  obtain ⟨j, e, hj, _, hq⟩ := (kcL_mem _ n).1 hm
  refine ⟨j, hj, e, fun h => ?_⟩
  obtain ⟨k', e', _, _, hq'⟩ := (kcL_mem _ n).1 h
  obtain rfl : k = k' := by omega
  rw [rbQ_not hq] at hq'
  cases hq'
 ·have key : ∀ i j : Nat, i < n → j < n → j ≠ i → decide ((j : Int) ∈ kcL (rbQ wx wy x y z nn T U V len) i n) = rbQ wx wy x y z nn T U V len i j := fun i j hi hj hne => by
   by_cases hq : rbQ wx wy x y z nn T U V len i j = true
   ·rw [hq]
    exact decide_eq_true ((kcL_mem _ n).2 ⟨j, rfl, hj, hne, hq⟩)
   ·have hf : rbQ wx wy x y z nn T U V len i j = false := by simpa using hq
    rw [hf]
    refine decide_eq_false fun h => ?_
    obtain ⟨j', e', _, _, hq'⟩ := (kcL_mem _ n).1 h
    obtain rfl : j = j' := by omega
    exact hq hq'
  refine ⟨_, _, rfl, ?_, rfl, ?_⟩
  ·have := key 0 1 (by omega) (by omega) (by decide)
   exact this.symm
  ·have := key 1 0 (by omega) (by omega) (by decide)
   refine Eq.trans ?_ this.symm
   unfold rbQ
   rcases rmA_swap wx wy x y z (nn 0) (T 0) (U 0) (V 0) (nn 1) (T 1) (U 1) (V 1) len with ⟨e1, e2⟩ | ⟨e1, e2⟩ | ⟨e1, e2⟩ <;> rw [e1, e2] <;> rfl
set_option maxRecDepth 100000 in
set_option maxHeartbeats 8000000 in
theorem laws_FnRoomTable (so : Option Addr) (n cap : Nat) (B : Nat → Int) (w : World) (hl : n ≤ maxLen) (h : RowAt w so n 1 (vb B)) (hB : ∀ i, 0 ≤ B i ∧ B i ≤ 255) :
 Calls Tryz.prog 3 #[.slice so n cap] w fun e w' => e = .returned (.bool true) ∧ Below w.heap.size w w' := by
 unfold maxLen at hl
 by_cases hn : 4096 < n
 ·have Hd := hide (decide_eq_true hn)
  go_enter Tryz.func3, Tryz.ntmps3
  go_wp2_with (go_at_call 4; (with_reducible refine (laws_big _ _ _ _ (by omega)).mono ?_); rintro e w9 ⟨rfl, rfl⟩; rw [Hd.out])
  go_ret
  exact ⟨rfl, bwz⟩
 have Hd := hide (decide_eq_false hn)
 go_enter Tryz.func3, Tryz.ntmps3
 go_wp2_with fail; (with_reducible refine (laws_big _ _ _ _ (by omega)).mono ?_); rintro e w0 ⟨rfl, rfl⟩; rw [Hd.out]
 go_wp2_with fail; (with_reducible refine (spec_DrawRoomTable so n cap B _ h hB (by omega)).mono ?_); rintro e w1 ⟨⟨wx, wy, ax, ay, bx, bY, cx, cy, dx, dy, cs, m, mcap, N, X, Y, S, Z, k, so2, n2, cap2, A, nn, C, T, U, V, len, rfl, hm, hmc, hn2, hnn, hc, hr⟩, hb1⟩; have hz1 := hb1.size
 have HC := hide hc
 have HR := hide hr
 have HB1 := hide hb1
 clear hc hr hb1 hB h Hd
 have KI := hide (fun W (hb : Below w1.heap.size w1 W) => impl_RoomTable wx wy ax ay bx bY cx cy dx dy cs m mcap N X Y S Z k so2 n2 cap2 A nn C T U V len W (RowAt.later hb HC.out) (by omega) hmc (Trs.later hb HR.out) (by omega) (fun i hi => by have := hnn i hi; omega))
 have KS := hide (fun W (hb : Below w1.heap.size w1 W) => spec_RoomTable wx wy ax ay bx bY cx cy dx dy cs m mcap N X Y S Z k so2 n2 cap2 A nn C T U V len W (RowAt.later hb HC.out) (by omega) (Trs.later hb HR.out) (by omega) (fun i hi => by have := hnn i hi; omega))
 obtain ⟨Nr, hNr⟩ : ∃ x, x = rbN n2 (rmC5 (isWd wx wy) (isCo ax ay bx bY cx cy dx dy m N X Y S Z) (allTr nn T U V n2) m k len) := ⟨_, rfl⟩
 obtain ⟨c9, hc9⟩ : ∃ x, x = rbC n2 (rmC5 (isWd wx wy) (isCo ax ay bx bY cx cy dx dy m N X Y S Z) (allTr nn T U V n2) m k len) := ⟨_, rfl⟩
 rw [← hNr, ← hc9] at KI KS
 obtain ⟨Rf, hRf⟩ : ∃ f, f = (fun j => kcL (rbQ wx wy (X k.toNat) (Y k.toNat) (Z k.toNat) nn T U V len) j n2) := ⟨_, rfl⟩
 have hlen : ∀ j, (Rf j).length ≤ 17 := fun j => by rw [hRf]; exact Nat.le_trans (kcL_len _ _ _) hn2
 have hNl : Nr ≤ 17 := by rw [hNr]; unfold rbN; split <;> omega
 have KI2 := hide (show ∀ W, Below w1.heap.size w1 W → Calls Tryz.prog 6 #[.agg #[.int .i64 wx, .int .i64 wy], .agg #[.int .i64 ax, .int .i64 ay, .int .i64 bx, .int .i64 bY, .int .i64 cx, .int .i64 cy, .int .i64 dx, .int .i64 dy, .slice cs m mcap], .int .i64 k, .slice so2 n2 cap2, .int .i64 len] W (RetT W Nr Rf c9) by rw [hRf]; exact KI.out)
 have KS2 := hide (show ∀ W, Below w1.heap.size w1 W → Calls Tryz.prog 7 #[.agg #[.int .i64 wx, .int .i64 wy], .agg #[.int .i64 ax, .int .i64 ay, .int .i64 bx, .int .i64 bY, .int .i64 cx, .int .i64 cy, .int .i64 dx, .int .i64 dy, .slice cs m mcap], .int .i64 k, .slice so2 n2 cap2, .int .i64 len] W (RetS W Nr Rf c9) by rw [hRf]; exact KS.out)
 have HRF := hide hRf
 have HNR := hide hNr
 have HC9 := hide hc9
 clear hRf hNr hc9 KI KS
 go_wp2_with fail; (with_reducible refine (KI2.out _ bwz).mono ?_); rintro e w2 ⟨so4, cp4, rfl, ho4, hb2⟩; obtain ⟨hc2, hf2⟩ := bcell hb2; have hz2 := hb2.size
 have y20 : w1.heap.size < w2.heap.size := by first | omega | (simp at hz2; omega)
 have y21 : w1.heap.size + 1 < w2.heap.size := by first | omega | (simp at hz2; omega)
 have H4 := hide ho4
 clear ho4
 go_wp2_with fail; (with_reducible refine (KS2.out _ bwz).mono ?_); rintro e w3 ⟨so5, cp5, rfl, ho5, hb3⟩; obtain ⟨hc3, hf3⟩ := bcell hb3; have hz3 := hb3.size
 have y30 : w1.heap.size < w3.heap.size := by omega
 have y31 : w1.heap.size + 1 < w3.heap.size := by omega
 have H43 := hide (OwT.later H4.out hb3)
 have HL := hide (fun W (hb : Below w3.heap.size w3 W) => laws_likeRows so4 so5 Nr cp4 cp5 _ W ((OwT.read H43.out).later hb) (ho5.later hb) (by omega) (fun j _ => by have := hlen j; omega))
 have C0 := hide (show CoAt w3 (w1.heap.size + 1) ax ay bx bY cx cy dx dy cs m mcap from ⟨by go_simp, by go_simp, by go_simp, by go_simp, by go_simp, by go_simp, by go_simp, by go_simp, by go_simp⟩)
 have x0 : w3.cell? ⟨w1.heap.size, 0, none⟩ = some (.int .i64 wx) := by go_simp
 have x1 : w3.cell? ⟨w1.heap.size, 1, none⟩ = some (.int .i64 wy) := by go_simp
 have HB3 := hide (show Below w1.heap.size w1 w3 from bwz)
 clear hc2 hf2 hc3 hf3 hb2 hb3 ho5 KI2 KS2 H4
 go_wp2_with fail; (with_reducible refine (HL.out _ (Below.refl _ _)).mono ?_); rintro e w4 ⟨rfl, hb4⟩
 have HB4 := hide (bstep HB3.out hb4)
 have C4 := hide (CoAt.later hb4 C0.out)
 have u0 := cell_later hb4 x0
 have u1 := cell_later hb4 x1
 have H44 := hide (OwT.later H43.out hb4)
 clear hb4 HB3 C0 H43 HL x0 x1
 by_cases hz : c9 = 0
 case neg =>
  have d1 : (c9 != 0) = true := bne_iff_ne.2 hz
  go_wp2
  go_ret
  exact ⟨rfl, HB1.out.trans (HB4.out.mono hz1)⟩
 subst hz
 by_cases hn22 : n2 < 2
 ·have hni : (n2 : Int) < 2 := by omega
  go_wp2
  go_ret
  exact ⟨rfl, HB1.out.trans (HB4.out.mono hz1)⟩
 have hni : ¬ (n2 : Int) < 2 := by omega
 have h16 : ¬ 16 < n2 := fun h => by have := HC9.out; rw [(rbN_16 h).2] at this; exact absurd this (by decide)
 have z5 : (rmC5 (isWd wx wy) (isCo ax ay bx bY cx cy dx dy m N X Y S Z) (allTr nn T U V n2) m k len) = 0 := by
  by_cases h : (rmC5 (isWd wx wy) (isCo ax ay bx bY cx cy dx dy m N X Y S Z) (allTr nn T U V n2) m k len) = 0
  ·exact h
  ·have := HC9.out; rw [(rbN_no h16 h).2] at this; exact absurd this.symm h
 obtain rfl : Nr = n2 := by rw [HNR.out, z5]; exact (rbN_ok h16).1
 obtain ⟨zw, zc, zt, zz, zl⟩ := zoC_of z5
 obtain ⟨v1, v2, k0, k1⟩ := zo_tt zz
 obtain ⟨t1, t2, b01, b12, r1, r2, r3, r4⟩ := tab_all (by omega) Rf HRF.out
 have KRA := hide (fun W (hb : Below w1.heap.size w1 W) => impl_RoomAt wx wy ax ay bx bY cx cy dx dy cs m mcap N X Y S Z k (A 0) (nn 0) (C 0) (T 0) (U 0) (V 0) (A 1) (nn 1) (C 1) (T 1) (U 1) (V 1) len W (RowAt.later hb HC.out) (by omega) hmc (RowAt.later hb (HR.out.2 0 (by omega))) (by have := hnn 0 (by omega); omega) (RowAt.later hb (HR.out.2 1 (by omega))) (by have := hnn 1 (by omega); omega))
 have hc0 : rmC5 (isWd wx wy) (isCo ax ay bx bY cx cy dx dy m N X Y S Z) (isTr (nn 0) (T 0) (U 0) (V 0) && isTr (nn 1) (T 1) (U 1) (V 1)) m k len = 0 := by
  rw [allTr_at (by omega) zt, allTr_at (by omega) zt, ← z5, zt]; rfl
 rw [hc0] at KRA
 obtain ⟨G9, hG9⟩ : ∃ x, x = (rmA wx wy (X k.toNat) (Y k.toNat) (Z k.toNat) (nn 0) (T 0) (U 0) (V 0) (nn 1) (T 1) (U 1) (V 1) len).1 := ⟨_, rfl⟩
 obtain ⟨R9, hR9⟩ : ∃ x, x = (rmA wx wy (X k.toNat) (Y k.toNat) (Z k.toNat) (nn 0) (T 0) (U 0) (V 0) (nn 1) (T 1) (U 1) (V 1) len).2 := ⟨_, rfl⟩
 have hra : raV 0 wx wy (nn 0) (T 0) (U 0) (V 0) (nn 1) (T 1) (U 1) (V 1) X Y Z k len = rmA wx wy (X k.toNat) (Y k.toNat) (Z k.toNat) (nn 0) (T 0) (U 0) (V 0) (nn 1) (T 1) (U 1) (V 1) len := by unfold raV; rw [if_pos rfl]
 rw [hra, ← hG9, ← hR9] at KRA
 rw [← hG9] at r2 r4
 obtain ⟨bs, os, rfl, hbs, ht0⟩ := HR.out.at 0 (by omega)
 obtain ⟨bs', os', e', _, ht1⟩ := HR.out.at 1 (by omega)
 injection e' with e'
 injection e' with e1' e2'
 subst e1'
 subst e2'
 obtain ⟨b4, Gr, Cr, rfl, _, hb4l, h4, h5, _⟩ := H44.out.resolve_left (by omega)
 have T2 := hide t2
 have HLN := hide hlen
 have H4C := hide h4
 have H5C := hide h5
 have H4R := hide (fun j (hj : j < Nr) => (show RowAt w4 (some ⟨Gr j, 0, none⟩) (Rf j).length 1 (vI (Rf j)) from fun q hq => ⟨Gr j, 0, rfl, fun i hi => by
  obtain rfl : i = 0 := by omega
  have := ((H5C.out j hj).2.2 q hq).1
  simpa [vI] using this⟩))
 have KH0 := hide (fun W (hb : Below w4.heap.size w4 W) => (laws_hasInt (some ⟨Gr 0, 0, none⟩) (Cr 0) (Rf 0) 1 W (RowAt.later hb (H4R.out 0 (by omega))) (by have := HLN.out 0; omega)).mono fun e w' (h : e = .returned (.bool (decide ((1 : Int) ∈ Rf 0))) ∧ Below W.heap.size W w') => (show e = .returned (.bool b01) ∧ Below W.heap.size W w' from ⟨h.1.trans (by rw [r1]), h.2⟩))
 have KH1 := hide (fun W (hb : Below w4.heap.size w4 W) => (laws_hasInt (some ⟨Gr 1, 0, none⟩) (Cr 1) (Rf 1) 0 W (RowAt.later hb (H4R.out 1 (by omega))) (by have := HLN.out 1; omega)).mono fun e w' (h : e = .returned (.bool (decide ((0 : Int) ∈ Rf 1))) ∧ Below W.heap.size W w') => (show e = .returned (.bool b12) ∧ Below W.heap.size W w' from ⟨h.1.trans (by rw [r3]), h.2⟩))
 have hr0 := h4 0 (by omega)
 have hr1 := h4 1 (by omega)
 have ct0 := cell_later HB4.out ht0
 have ct1 := cell_later HB4.out ht1
 rw [Nat.add_zero] at ct0
 have f01 : (b01 != b01) = false := by cases b01 <;> rfl
 have f12 : (b12 != b12) = false := by cases b12 <;> rfl
 have hn0 : (0 : Int) < (Nr : Int) := by omega
 have hn1 : (1 : Int) < (Nr : Int) := by omega
 obtain ⟨l0, hl0⟩ : ∃ x, x = (Rf 0).length := ⟨_, rfl⟩
 obtain ⟨l1, hl1⟩ : ∃ x, x = (Rf 1).length := ⟨_, rfl⟩
 obtain ⟨q0, hq0⟩ : ∃ x, x = Gr 0 := ⟨_, rfl⟩
 obtain ⟨q1, hq1⟩ : ∃ x, x = Gr 1 := ⟨_, rfl⟩
 obtain ⟨p0, hp0⟩ : ∃ x, x = Cr 0 := ⟨_, rfl⟩
 obtain ⟨p1, hp1⟩ : ∃ x, x = Cr 1 := ⟨_, rfl⟩
 rw [← hl0, ← hq0, ← hp0] at KH0 hr0
 rw [← hl1, ← hq1, ← hp1] at KH1 hr1
 obtain ⟨A0, hA0⟩ : ∃ x, x = A 0 := ⟨_, rfl⟩
 obtain ⟨A1, hA1⟩ : ∃ x, x = A 1 := ⟨_, rfl⟩
 obtain ⟨N0, hN0⟩ : ∃ x, x = nn 0 := ⟨_, rfl⟩
 obtain ⟨N1, hN1⟩ : ∃ x, x = nn 1 := ⟨_, rfl⟩
 obtain ⟨C0, hC0⟩ : ∃ x, x = C 0 := ⟨_, rfl⟩
 obtain ⟨C1, hC1⟩ : ∃ x, x = C 1 := ⟨_, rfl⟩
 rw [← hA0, ← hN0, ← hC0] at ct0
 rw [← hA1, ← hN1, ← hC1] at ct1
 rw [← hA0, ← hN0, ← hC0, ← hA1, ← hN1, ← hC1] at KRA
 clear hl0 hl1 hq0 hq1 hp0 hp1 hA0 hA1 hN0 hN1 hC0 hC1 hra hG9 hR9 hc0 r1 r3 t1 t2 v1 v2 k0 k1 zw zc zt zz zl z5 h16 hn22 ht0 ht1 h4 h5 hlen H44 HNR HC9 HRF
 obtain ⟨o0, o1, o2, o3, o4, o5', o6, o7, o8⟩ := C4.out
 have zb0 : w1.heap.size < w4.heap.size := World.block_lt_of_cell? _ _ u0
 have zb1 : w1.heap.size + 1 < w4.heap.size := World.block_lt_of_cell? _ _ o0
 have zb2 : bs < w4.heap.size := World.block_lt_of_cell? _ _ ct0
 have nr0 : 0 < Nr := by omega
 have nr1 : 1 < Nr := by omega
 go_upto_region 10 with fail
 go_cut [12, 13] (fun s1 s2 W => ∃ xb : Nat, s1 = .pointer (some ⟨xb, 0, none⟩) ∧ s2 = .int .i64 0 ∧ W.cell? ⟨xb, 0, none⟩ = some (.int .i64 G9) ∧ Hid (Below w4.heap.size w4 W))
 case first =>
  refine wp_region_held_drew (S := fun W => Below w4.heap.size w4 W) (by kernel_rfl) (Below.drew (Below.refl _ _)) (fun hHeld => ?_)
  refine tkL 0 (some 61) rfl ?_; simp only [pz]
  refine tkL 1 (some 62) rfl ?_; simp only [pz]
  refine tkN 2 (some 63) rfl ?_; simp only [pz]
  refine tkN 3 (some 64) rfl ?_; simp only [pz]
  refine tkN 4 (some 65) rfl ?_; simp only [pz]
  refine tkL 5 (some 66) rfl ?_; simp only [pz]
  refine tkN 6 (some 67) rfl ?_; simp only [pz]
  refine tkN 7 (some 68) rfl ?_; simp only [pz]
  refine tkL 8 (some 69) rfl ?_; simp only [pz]
  refine tkN 9 (some 70) rfl ?_; simp only [pz]
  refine wpAnyH_ready (rs := [10, 14]) (by kernel_rfl) (by simp) ?_; refine (AllReadyH.cons (o := ⟨some 71, _, _, _, _, _⟩) rfl (fun K hK => ?_) (AllReadyH.cons (o := ⟨some 12, _, _, _, _, _⟩) rfl (fun K hK => ?_) AllReadyH.nil))
  ·go_simp; (go_at_call 9; (with_reducible refine (KRA.out _ (bstep HB4.out hHeld)).mono ?_); rintro e w9 ⟨rfl, hb⟩; have hzz := hb.size; have hA9 := bstep hHeld hb; have hA0 := Below.alloc hA9 hA9.size (.cells #[.int .i64 0, .int .i64 0] 40); have hA1 := Below.alloc hA9 hA9.size (.cells #[.int .i64 G9, .int .i64 R9] 40); clear hA9; (first | (have mx := box2 hb; have mc0 : w9.cell? ⟨w4.heap.size, 0, none⟩ = some (.int .i64 0) := mx.1; have mc1 : w9.cell? ⟨w4.heap.size, 1, none⟩ = some (.int .i64 0) := mx.2.1; have mf0 : w9.frozen? ⟨w4.heap.size, 0, none⟩ = false := mx.2.2.1; have mf1 : w9.frozen? ⟨w4.heap.size, 1, none⟩ = false := mx.2.2.2; clear mx) | (have mx := box2d hb; have mc0 : w9.cell? ⟨w4.heap.size, 0, none⟩ = some (.int .i64 0) := mx.1; have mc1 : w9.cell? ⟨w4.heap.size, 1, none⟩ = some (.int .i64 0) := mx.2.1; have mf0 : w9.frozen? ⟨w4.heap.size, 0, none⟩ = false := mx.2.2.1; have mf1 : w9.frozen? ⟨w4.heap.size, 1, none⟩ = false := mx.2.2.2; clear mx) | skip))
   all_goals (try go_wp2_with fail)
   refine hK.out _ _ ?_ (fun hH2 => ?_)
   ·exact hhz
   clear hK K hHeld; (have hHeld := hH2); clear hH2; (try simp only [pz])
   refine tkN 11 (some 60) rfl ?_; simp only [pz]
   refine tkN 12 (some 72) rfl ?_; simp only [pz]
   refine tkN 13 (some 73) rfl ?_; simp only [pz]
   refine rd1 14 (some 12) rfl (fun K hK => ?_)
   have zh14 := Below.size hHeld; go_simp
   all_goals (try go_wp2_with fail)
   refine hK.out _ _ ?_ (fun hH2 => ?_)
   ·exact bwz
   clear hK K hHeld; (have hHeld := hH2); clear hH2; (try simp only [pz])
   (first | (have zg14 := alloc_lt hHeld) | (have zg14 := alloc_lt2 hHeld rfl)); skip
   have zs14 := zg14; (try simp only [size_al] at zs14)
   refine rd1 15 none rfl (fun K hK => ?_)
   go_simp
   all_goals (try go_wp2_with fail)
   refine hK.out _ _ ?_ (fun hH2 => ?_)
   ·exact bwz
   clear hK K hHeld; (have hHeld := hH2); clear hH2; (try simp only [pz])
   refine tkN 16 (some 13) rfl ?_; simp only [pz]
   refine wpAnyH_done (by kernel_rfl) ?_ _; (try simp only [pz])
   go_wp2_with fail
   go_meet
   exact ⟨_, rfl, rfl, by go_simp, hide hHeld⟩
  ·have zh14 := Below.size hHeld; go_simp
   all_goals (try go_wp2_with fail)
   refine hK.out _ _ ?_ (fun hH2 => ?_)
   ·exact bwz
   clear hK K hHeld; (have hHeld := hH2); clear hH2; (try simp only [pz])
   (first | (have zg14 := alloc_lt hHeld) | (have zg14 := alloc_lt2 hHeld rfl)); skip
   have zs14 := zg14; (try simp only [size_al] at zs14)
   refine rd1 10 (some 71) rfl (fun K hK => ?_)
   go_simp; (go_at_call 9; (with_reducible refine (KRA.out _ (bstep HB4.out hHeld)).mono ?_); rintro e w9 ⟨rfl, hb⟩; have hzz := hb.size; have hA9 := bstep hHeld hb; have hA0 := Below.alloc hA9 hA9.size (.cells #[.int .i64 0, .int .i64 0] 40); have hA1 := Below.alloc hA9 hA9.size (.cells #[.int .i64 G9, .int .i64 R9] 40); clear hA9; (first | (have mx := box2 hb; have mc0 : w9.cell? ⟨w4.heap.size, 0, none⟩ = some (.int .i64 0) := mx.1; have mc1 : w9.cell? ⟨w4.heap.size, 1, none⟩ = some (.int .i64 0) := mx.2.1; have mf0 : w9.frozen? ⟨w4.heap.size, 0, none⟩ = false := mx.2.2.1; have mf1 : w9.frozen? ⟨w4.heap.size, 1, none⟩ = false := mx.2.2.2; clear mx) | (have mx := box2d hb; have mc0 : w9.cell? ⟨w4.heap.size, 0, none⟩ = some (.int .i64 0) := mx.1; have mc1 : w9.cell? ⟨w4.heap.size, 1, none⟩ = some (.int .i64 0) := mx.2.1; have mf0 : w9.frozen? ⟨w4.heap.size, 0, none⟩ = false := mx.2.2.1; have mf1 : w9.frozen? ⟨w4.heap.size, 1, none⟩ = false := mx.2.2.2; clear mx) | skip)); have zg14 := Nat.lt_of_lt_of_le zg14 hb.size; have zs14 := zg14; (try simp only [size_al] at zs14)
   all_goals (try go_wp2_with fail)
   refine hK.out _ _ ?_ (fun hH2 => ?_)
   ·exact hhz
   clear hK K hHeld; (have hHeld := hH2); clear hH2; (try simp only [pz])
   refine tkN 11 (some 60) rfl ?_; simp only [pz]
   refine tkN 12 (some 72) rfl ?_; simp only [pz]
   refine tkN 13 (some 73) rfl ?_; simp only [pz]
   refine rd1 15 none rfl (fun K hK => ?_)
   go_simp
   all_goals (try go_wp2_with fail)
   refine hK.out _ _ ?_ (fun hH2 => ?_)
   ·exact bwz
   clear hK K hHeld; (have hHeld := hH2); clear hH2; (try simp only [pz])
   refine tkN 16 (some 13) rfl ?_; simp only [pz]
   refine wpAnyH_done (by kernel_rfl) ?_ _; (try simp only [pz])
   go_wp2_with fail
   go_meet
   exact ⟨_, rfl, rfl, by go_simp, hide hHeld⟩
 case rest =>
 obtain ⟨xb, rfl, rfl, g0, HBP⟩ := hcut
 obtain ⟨wP, rfl⟩ : ∃ x : World, x = wc := ⟨_, rfl⟩
 clear o0 o1 o2 o3 o4 o5' o6 o7 o8 u0 u1 ct0 ct1 zb0 zb1 zb2 KRA C4
 have c0 := cell_later HBP.out hr0
 have c1 := cell_later HBP.out hr1
 have zp0 : xb < wP.heap.size := World.block_lt_of_cell? _ _ g0
 have zp1 : b4 < wP.heap.size := World.block_lt_of_cell? _ _ c0
 clear hr0 hr1
 go_upto_region 11 with fail
 refine wp_region_held_drew (S := fun W => Below wP.heap.size wP W) (by kernel_rfl) (Below.drew (Below.refl _ _)) (fun hHeld => ?_)
 refine tkN 0 (some 74) rfl ?_; simp only [pz]
 refine tkN 1 (some 75) rfl ?_; simp only [pz]
 refine tkN 2 (some 76) rfl ?_; simp only [pz]
 refine tkN 3 (some 77) rfl ?_; simp only [pz]
 refine tkL 4 (some 78) rfl ?_; simp only [pz]
 refine tkN 5 (some 79) rfl ?_; simp only [pz]
 refine tkN 6 (some 80) rfl ?_; simp only [pz]
 refine tkN 7 (some 81) rfl ?_; simp only [pz]
 refine tkL 8 (some 82) rfl ?_; simp only [pz]
 refine rd1 9 (some 83) rfl (fun K hK => ?_)
 go_simp; (first | (go_at_call 10; (with_reducible refine (KH0.out _ (bstep HBP.out hHeld)).mono ?_); rintro e w9 ⟨rfl, hb⟩) | (go_at_call 10; (with_reducible refine (KH1.out _ (bstep HBP.out hHeld)).mono ?_); rintro e w9 ⟨rfl, hb⟩))
 all_goals (try go_wp2_with fail)
 refine hK.out _ _ ?_ (fun hH2 => ?_)
 ·exact hhz
 clear hK K hHeld; (have hHeld := hH2); clear hH2; (try simp only [pz])
 refine tkN 10 (some 84) rfl ?_; simp only [pz]
 refine tkN 11 (some 85) rfl ?_; simp only [pz]
 refine tkN 12 (some 86) rfl ?_; simp only [pz]
 refine tkN 13 (some 87) rfl ?_; simp only [pz]
 refine tkL 14 (some 88) rfl ?_; simp only [pz]
 refine tkN 15 (some 89) rfl ?_; simp only [pz]
 refine tkN 16 (some 90) rfl ?_; simp only [pz]
 refine tkN 17 (some 91) rfl ?_; simp only [pz]
 refine tkL 18 (some 92) rfl ?_; simp only [pz]
 refine rd1 19 (some 93) rfl (fun K hK => ?_)
 go_simp; (first | (go_at_call 10; (with_reducible refine (KH0.out _ (bstep HBP.out hHeld)).mono ?_); rintro e w9 ⟨rfl, hb⟩) | (go_at_call 10; (with_reducible refine (KH1.out _ (bstep HBP.out hHeld)).mono ?_); rintro e w9 ⟨rfl, hb⟩))
 all_goals (try go_wp2_with fail)
 refine hK.out _ _ ?_ (fun hH2 => ?_)
 ·exact hhz
 clear hK K hHeld; (have hHeld := hH2); clear hH2; (try simp only [pz])
 refine tkN 20 (some 94) rfl ?_; simp only [pz]
 refine tkN 21 (some 95) rfl ?_; simp only [pz]
 refine wpAnyH_done (by kernel_rfl) ?_ _; (try simp only [pz])
 have HBQ := hide (bstep HBP.out hHeld)
 clear g0 c0 c1 zp0 zp1 hHeld HBP KH0 KH1 r2 r4 f01 f12 hn0 hn1 nr0 nr1
 go_wp2
 go_loopw [14] (fun i wr => ∃ j : Nat, j ≤ Nr ∧ i = .int .i64 (j : Int) ∧ Hid (Below w4.heap.size w4 wr)) (fun i _ => Nr - (intOf i).toNat)
 case atStart => exact ⟨0, Nat.zero_le _, rfl, HBQ⟩
 case round =>
  obtain ⟨j, hj, rfl, HBr⟩ := hrel
  have zr := HBr.out.size
  by_cases hlt : j < Nr
  ·have hj0 : (0 : Int) ≤ (j : Int) := by omega
   have hj1 : (j : Int) < (Nr : Int) := by omega
   obtain ⟨wo, rfl⟩ : ∃ x : World, x = wr := ⟨_, rfl⟩
   obtain ⟨gj, hgj⟩ : ∃ x, x = Gr j := ⟨_, rfl⟩
   obtain ⟨lj, hlj⟩ : ∃ x, x = (Rf j).length := ⟨_, rfl⟩
   obtain ⟨cj, hcj⟩ : ∃ x, x = Cr j := ⟨_, rfl⟩
   have hrow := H4C.out j hlt
   rw [← hgj, ← hlj, ← hcj] at hrow
   have Hrow := hide hrow
   have hl17 : lj ≤ 17 := by rw [hlj]; exact HLN.out j
   have HE := hide (show ∀ d, d < lj → ∃ q x c : Nat, q < Nr ∧ w4.cell? ⟨gj, d, none⟩ = some (.int .i64 (q : Int)) ∧ w4.cell? ⟨b4, q, none⟩ = some (.slice (some ⟨x, 0, none⟩) (Rf q).length c) ∧ ∀ W, Below w4.heap.size w4 W → Calls Tryz.prog 10 #[.slice (some ⟨x, 0, none⟩) (Rf q).length c, .int .i64 (j : Int)] W (fun e w' => e = .returned (.bool false) ∧ Below W.heap.size W w') from fun d hd => by
    obtain ⟨q, hq, hv, hnm⟩ := T2.out j d hlt (by omega)
    refine ⟨q, Gr q, Cr q, hq, ?_, H4C.out q hq, fun W hb => ?_⟩
    ·have h9 := ((H5C.out j hlt).2.2 d (by omega)).1
     rw [← hgj, hv] at h9
     exact h9
    ·exact (laws_hasInt (some ⟨Gr q, 0, none⟩) (Cr q) (Rf q) (j : Int) W (RowAt.later hb (H4R.out q hq)) (by have := HLN.out q; omega)).mono fun e w' h => ⟨h.1.trans (by rw [decide_eq_false hnm]), h.2⟩)
   clear hrow hgj hlj hcj
   go_wp2
   go_loopw [15] (fun l wi => ∃ d : Nat, d ≤ lj ∧ l = .int .i64 (d : Int) ∧ Hid (Below w4.heap.size w4 wi)) (fun l _ => lj - (intOf l).toNat)
   case atStart => exact ⟨0, Nat.zero_le _, rfl, HBr⟩
   case round =>
    obtain ⟨d, hd, rfl, HBi⟩ := hrel
    have hrw := cell_later HBi.out Hrow.out
    by_cases hdl : d < lj
    ·have hd0 : (0 : Int) ≤ (d : Int) := by omega
     have hd1 : (d : Int) < (lj : Int) := by omega
     obtain ⟨q, x, c, hq, e1, e2, kq⟩ := HE.out d hdl
     obtain ⟨lq, hlq⟩ : ∃ x, x = (Rf q).length := ⟨_, rfl⟩
     rw [← hlq] at e2 kq
     have KQ := hide kq
     have hq0 : (0 : Int) ≤ (q : Int) := by omega
     have hq1 : (q : Int) < (Nr : Int) := by omega
     have v1 := cell_later HBi.out e1
     have v2 := cell_later HBi.out e2
     clear kq e1 e2 hlq
     go_wp2_with fail; (with_reducible refine (KQ.out _ HBi.out).mono ?_); rintro e wh ⟨rfl, hbh⟩
     have HBh := hide (bstep HBi.out hbh)
     clear hbh v1 v2 hrw KQ
     go_wp2
     go_roundw
     case rel => exact ⟨d + 1, by omega, by go_num, HBh⟩
     case measure => simp [intOf]; omega
    ·have hdl' : ¬ (d : Int) < (lj : Int) := by omega
     go_wp2
     go_roundw
     case rel => exact ⟨j + 1, by omega, by go_num, HBi⟩
     case measure => simp [intOf]; omega
  ·have hje : ¬ (j : Int) < (Nr : Int) := by omega
   go_wp2
   go_ret
   exact ⟨rfl, HB1.out.trans ((HB4.out.trans (HBr.out.mono (by have := HB4.out.size; omega))).mono hz1)⟩

set_option maxRecDepth 100000 in
theorem FnRoomTable_lifted (os : Os) (started : os.Started) (H : Type) (enc : TypeId × Value → H) :
 ReturnsInHanded {} Tryz.checked os 3 .any (fun w args => (Rows.fnRoomTableSpec.pre enc Tryz.prog Tryz.f3 [] false w args ∧ laidMetH Tryz.prog Rows.fnRoomTableRow.laid w) ∧ sizedMet enc Tryz.prog Tryz.f3 (OpenSpec.ofChange Rows.fnRoomTableSpec) false w args) (Rows.fnRoomTableSpec.post enc Tryz.prog Tryz.f3 false true false false) := by
 refine returnsInHanded_of_change_and (C := Tryz.checked) (X := fun w _ => laidMetH Tryz.prog Rows.fnRoomTableRow.laid w) (fun _ _ _ hh h => h.of_heap hh) Tryz.own started (by as_aux_lemma => kernel_rfl) Tryz.func3
  (ChangeSpec.witness_shaped (enc := enc) (C := Tryz.checked) (os := os) (X := fun w _ => laidMetH Tryz.prog Rows.fnRoomTableRow.laid w) false (World.laidAll Tryz.prog os Rows.fnRoomTableRow.laid) #[.slice none 0 0] 8 (World.laidAll_os _ _ _) (World.shaped_of_ZipB (by as_aux_lemma => kernel_rfl) (by as_aux_lemma => kernel_rfl)) (by as_aux_lemma => kernel_rfl) (by as_aux_lemma => kernel_rfl) (by as_aux_lemma => kernel_rfl) (by rw [MakeChecks.laidMetH_plain _ _ _ (by as_aux_lemma => kernel_rfl)]; exact laidMet_laidAll _ (by as_aux_lemma => kernel_rfl) (by as_aux_lemma => kernel_rfl))) ?_
 intro W base args ds gs before hval0 hW _ _ hL _
 have hval : ∀ (j : Nat) t v, Tryz.f3.params[j]? = some t → args[j]? = some v → Value.okWide Tryz.prog W .any base t v := hval0
 have hW' := hW
 obtain ⟨p, q, hA0, hV, rfl, _, _⟩ := hW
 have hA : DataW.TrodAll enc Tryz.prog W 0 (fun _ => true) true Tryz.f3.params.toList args.toList ds p := hA0
 rw [Tryz.params3] at hA hval
 obtain ⟨v0, vs0, d0, ds0, p0, q0, hargs, rfl, rfl, h0, r0⟩ := trodAll_cons hA
 obtain ⟨rfl, rfl, rfl⟩ := trodAll_nil r0
 obtain rfl : args = #[v0] := by cases args; simp_all
 obtain ⟨so0, n0, cp0, B0, rfl, hl0, hr0, hB0⟩ := op_bytes (hval 0 22 v0 rfl rfl) h0
 obtain ⟨rfl, rfl⟩ := trodVars_none hV
 refine (laws_FnRoomTable so0 n0 cp0 B0 W hl0 hr0 hB0).mono fun e W1 ⟨he, hb⟩ => ⟨_, he, ?_⟩
 exact law_post Tryz.laidOut (by as_aux_lemma => kernel_rfl) Tryz.underlying4 rfl rfl hW' rfl rfl rfl hb
set_option maxHeartbeats 8000000 in
theorem FnRoomTable_closed : joinedFacts Tryz.prog 3 Tryz.f3 Rows.fnRoomTableSpec Rows.fnRoomTableRow = true := by
 simp only [joinedFacts, Bool.and_eq_true, Tryz.laidOut, Tryz.mapsRowed, Tryz.stopsNone, Tryz.stopKnobsNone, Tryz.plainKeysIs, Tryz.stopsHeardIs, Tryz.mayEnterIs, Tryz.liftsFinalIs, Tryz.makeIs, and_true]
 repeat' (with_reducible refine And.intro ?_ ?_)
 all_goals (as_aux_lemma => kernel_rfl)
set_option maxHeartbeats 8000000 in
/-- FnRoomTable: whatever the input, the law returns true, and the input reads as it did. -/
theorem FnRoomTable_row : Rows.FnRoomTableSaid :=
 OpenClaim.holds_of_wide 3 Tryz.f3 rfl rfl rfl rfl rfl rfl rfl ⟨rfl, rfl, rfl, rfl, rfl⟩ rfl rfl rfl rfl rfl (by as_aux_lemma => kernel_rfl) Tryz.func3
  FnRoomTable_closed
  (of_decide_eq_true (by as_aux_lemma => kernel_rfl)) (by unfold Func.isWrapper; rw [if_neg (of_decide_eq_false (by as_aux_lemma => kernel_rfl))]; exact ⟨rfl, rfl⟩)
  (fun os started H enc _ => FnRoomTable_lifted os started H enc)

set_option maxHeartbeats 8000000 in
/-- FnRoomTable: the tied card. -/
theorem FnRoomTable_holds : Rows.FnRoomTableCardSaid :=
 Claim7.holds_tied_plain_at .later [] [.data, .pinned] true (true, "f0f9648bd39a753d7c42a71272e2b9aef7c4444779ab019e4df17509ee776089") false
  FnRoomTable_row (fun _ h => by cases h) (by as_aux_lemma => kernel_rfl) (fun _ h => by cases h) fnRoomTable_row_tie rfl ⟨rfl, rfl⟩ (by as_aux_lemma => kernel_rfl) rfl
  (fun f fn hf hfn => by
   obtain rfl : f = 3 := Option.some.inj ((show Tryz.prog.funcNamed Rows.fnRoomTableRow.func = some 3 by kernel_rfl).symm.trans hf) |>.symm
   obtain rfl : fn = Tryz.f3 := (Option.some.inj (Tryz.func3.symm.trans hfn)).symm
   exact ⟨by kernel_rfl, fun j t ht => by
    rw [Tryz.params3] at ht
    have hm : t ∈ [22] := by simpa using Array.mem_of_getElem? ht
    have hall : ([22].all fun u => !Tryz.prog.wantsStandIn u) = true := by kernel_rfl
    exact (show Tryz.prog.wantsStandIn t = false by simpa using List.all_eq_true.1 hall t hm)⟩)
  (by as_aux_lemma => kernel_rfl)
#print axioms FnRoomTable_holds
end Go.Proofs.YthlnpcneicmblaaGreatDoor
