/- FnNearest holds: the nearest point of a track to a mark is hardly farther than any of its fixes; for every code. What the program's text lays in the library's table is all that the card takes. -/
import Derived.Test.YtgcdgdnmcdffoaaGreatDoorYk
import Derived.Test.YtgcdgdnmcdffoaaGreatDoorZo
import Derived.Test.YtgcdgdnmcdffoaaGreatDoorYm
import Derived.Test.YtgcdgdnmcdffoaaGreatDoorLaw
import Derived.Test.YtgcdgdnmcdffoaaGreatDoorTie
import Derived.Test.YtgcdgdnmcdffoaaGreatDoorCards
import Derived.Lay
import Derived.LaidMore
import Derived.OpenShut
import Derived.Stop.Joined
import Derived.SevenTiedAt
namespace Go.Proofs.YtgcdgdnmcdffoaaGreatDoor
open Go.ChangeShapes Go.WideShapes Go.ChangeAt Go.RowKit

set_option maxRecDepth 100000 in
set_option maxHeartbeats 8000000 in
theorem laws_FnNearest (so : Option Addr) (n cap : Nat) (B : Nat → Int) (w : World) (hl : n ≤ maxLen) (h : RowAt w so n 1 (vb B)) (hB : ∀ i, 0 ≤ B i ∧ B i ≤ 255) :
 Calls Tryz.prog 4 #[.slice so n cap] w fun e w' => e = .returned (.bool true) ∧ Below w.heap.size w w' := by
 unfold maxLen at hl
 by_cases hn : 4096 < n
 ·have Hd := hide (decide_eq_true hn)
  go_enter Tryz.func4, Tryz.ntmps4
  go_wp2_with (go_at_call 8; (with_reducible refine (laws_big _ _ _ _ (by omega)).mono ?_); rintro e w9 ⟨rfl, rfl⟩; rw [Hd.out])
  go_ret
  exact ⟨rfl, bwz⟩
 have Hd := hide (decide_eq_false hn)
 go_enter Tryz.func4, Tryz.ntmps4
 go_wp2_with fail; (with_reducible refine (laws_big _ _ _ _ (by omega)).mono ?_); rintro e w0 ⟨rfl, rfl⟩; rw [Hd.out]
 go_wp2_with fail; (with_reducible refine (spec_DrawNearestOnTrack so n cap B _ h hB (by omega)).mono ?_); rintro e w1 ⟨⟨ax, ay, bx, bY, cx, cy, dx, dy, cs, m, mcap, N, X, Y, S, Z, k, so2, n2, cap2, T, U, V, rfl, hm, hmc, hn2, hc, hr⟩, hb1⟩; have hz1 := hb1.size
 have HC := hide hc
 have HR := hide hr
 have HB1 := hide hb1
 clear hc hr hb1 hB h Hd
 have K1 := hide (fun W (hb : Below w1.heap.size w1 W) => impl_NearestOnTrack ax ay bx bY cx cy dx dy cs m mcap N X Y S Z k so2 n2 cap2 T U V W (RowAt.later hb HC.out) (by omega) hmc (RowAt.later hb HR.out) (by omega))
 have K2 := hide (fun W (hb : Below w1.heap.size w1 W) => spec_NearestOnTrack ax ay bx bY cx cy dx dy cs m mcap N X Y S Z k so2 n2 cap2 T U V W (RowAt.later hb HC.out) (by omega) (RowAt.later hb HR.out) (by omega))
 have KD := hide (fun t W (hb : Below w1.heap.size w1 W) => impl_DistanceToMark ax ay bx bY cx cy dx dy cs m mcap N X Y S Z k so2 n2 cap2 T U V t W (RowAt.later hb HC.out) (by omega) hmc (RowAt.later hb HR.out) (by omega))
 rcases zoC_two (isCo ax ay bx bY cx cy dx dy m N X Y S Z) (isTr n2 T U V) m k with ⟨z, v1, v2, k0, k1⟩ | z
 case inr =>
  clear KD
  generalize nnB (isCo ax ay bx bY cx cy dx dy m N X Y S Z) (isTr n2 T U V) m k n2 U V X Y = r9 at *
  generalize nnX (isCo ax ay bx bY cx cy dx dy m N X Y S Z) (isTr n2 T U V) m k n2 U V X Y = x9 at *
  generalize nnY (isCo ax ay bx bY cx cy dx dy m N X Y S Z) (isTr n2 T U V) m k n2 U V X Y = y9 at *
  generalize zoC (isCo ax ay bx bY cx cy dx dy m N X Y S Z) (isTr n2 T U V) m k = c9 at *
  have d1 : (c9 != 0) = true := bne_iff_ne.2 z
  go_wp2_with fail; (with_reducible refine (K1.out _ bwz).mono ?_); rintro e w2 ⟨rfl, hbw2⟩; obtain ⟨hcw2, hfw2⟩ := bcell hbw2; have hzw2 := hbw2.size; have zzw20 : w1.heap.size < w2.heap.size := (by first | omega | (simp at hzw2; omega)); have zzw21 : w1.heap.size + 1 < w2.heap.size := (by first | omega | (simp at hzw2; omega))
  go_wp2_with fail; (with_reducible refine (K2.out _ bwz).mono ?_); rintro e w3 ⟨rfl, hbw3⟩; obtain ⟨hcw3, hfw3⟩ := bcell hbw3; have hzw3 := hbw3.size; have zzw30 : w1.heap.size < w3.heap.size := (by first | omega | (simp at hzw3; omega)); have zzw31 : w1.heap.size + 1 < w3.heap.size := (by first | omega | (simp at hzw3; omega)); have zzw32 : w2.heap.size < w3.heap.size := (by first | omega | (simp at hzw3; omega))
  have hb1 := HB1.out
  go_wp2
  go_ret
  exact ⟨rfl, bwz⟩
 obtain ⟨K, rfl⟩ : ∃ K : Nat, k = (K : Int) := ⟨k.toNat, by omega⟩
 have hK : K < m := by omega
 obtain ⟨b5, o5, rfl, hb5, _, cx1, cy1, _, _⟩ := HC.out.at5 K hK
 have hmk := (isMk_t ((isCo_t v1).2.2.2.2 K hK)).2.1
 obtain ⟨hn0, _, hall⟩ := isTr_t v2
 have hle := nsF_le (X K) (Y K) U V (n2 - 2)
 have hpt := nrP_pt (x := X K) (y := Y K) v2 (show nsF (X K) (Y K) U V (n2 - 2) + 1 < n2 by omega)
 have hnear := fun i (hi : i < n2) => near_fix (x := X K) (y := Y K) v2 hi
 have eB : nnB (isCo ax ay bx bY cx cy dx dy m N X Y S Z) (isTr n2 T U V) m K n2 U V X Y = ((nsF (X K) (Y K) U V (n2 - 2) : Nat) : Int) := by unfold nnB; rw [if_pos z, Int.toNat_natCast]
 have eX : nnX (isCo ax ay bx bY cx cy dx dy m N X Y S Z) (isTr n2 T U V) m K n2 U V X Y = (nrP (X K) (Y K) U V (nsF (X K) (Y K) U V (n2 - 2))).1 := by unfold nnX; rw [if_pos z, Int.toNat_natCast]
 have eY : nnY (isCo ax ay bx bY cx cy dx dy m N X Y S Z) (isTr n2 T U V) m K n2 U V X Y = (nrP (X K) (Y K) U V (nsF (X K) (Y K) U V (n2 - 2))).2 := by unfold nnY; rw [if_pos z, Int.toNat_natCast]
 rw [eB, eX, eY, z] at K1 K2
 have HD := hide (show ∀ i, i < n2 → 0 ≤ rt (sq (U i) (V i) (X K) (Y K)) ∧ rt (sq (U i) (V i) (X K) (Y K)) ≤ 8000000000000 ∧ ∀ W, Below w1.heap.size w1 W → Calls Tryz.prog 12 #[.agg #[.int .i64 ax, .int .i64 ay, .int .i64 bx, .int .i64 bY, .int .i64 cx, .int .i64 cy, .int .i64 dx, .int .i64 dy, .slice (some ⟨b5, o5, none⟩) m mcap], .int .i64 (K : Int), .agg #[.slice so2 n2 cap2], .int .i64 (T i)] W fun e w' => e = .returned (.tuple #[.int .i64 (rt (sq (U i) (V i) (X K) (Y K))), .int .i64 0]) ∧ Below W.heap.size W w' from fun i hi => by
  obtain ⟨_, _, hp, _⟩ := hall i hi
  obtain ⟨q0, q1⟩ := sq_pt hp hmk
  refine ⟨rt_nonneg _, rt_le q0 (by decide) (by omega), fun W hb => ?_⟩
  have k9 := KD.out (T i) W hb
  rw [show izOk (isCo ax ay bx bY cx cy dx dy m N X Y S Z) (isTr n2 T U V) m K (inB (T i) (T 0) (T (n2 - 1))) = true by unfold izOk; rw [z, tr_in v2 hi]; rfl, show izC (isCo ax ay bx bY cx cy dx dy m N X Y S Z) (isTr n2 T U V) m K (inB (T i) (T 0) (T (n2 - 1))) = 0 by unfold izC; rw [z, tr_in v2 hi]; rfl, show dsq n2 T U V (T i) X Y K = sq (U i) (V i) (X K) (Y K) by unfold dsq; rw [posX_at v2 U i hi, posX_at v2 V i hi, Int.toNat_natCast]] at k9
  exact k9)
 generalize (nrP (X K) (Y K) U V (nsF (X K) (Y K) U V (n2 - 2))).1 = x9 at *
 generalize (nrP (X K) (Y K) U V (nsF (X K) (Y K) U V (n2 - 2))).2 = y9 at *
 generalize ((nsF (X K) (Y K) U V (n2 - 2) : Nat) : Int) = r9 at *
 obtain ⟨q0, q1⟩ := sq_pt hpt hmk
 have KS := hide (fun W => impl_SquareDistance x9 y9 (X K) (Y K) hpt hmk W)
 have KR := hide (fun W => impl_RootOf _ q0 (by omega) W)
 have t0 := rt_nonneg (sq x9 y9 (X K) (Y K))
 have t1 : rt (sq x9 y9 (X K) (Y K)) ≤ 8000000000000 := rt_le q0 (by decide) (by omega)
 have HN := hide hnear
 generalize sq x9 y9 (X K) (Y K) = d9 at *
 generalize rt d9 = e9 at *
 clear v1 v2 z eB eX eY KD hall hle hpt hmk hnear q0 q1
 have hi5 : (0 : Int) ≤ (K : Int) := by omega
 have hi6 : (K : Int) < (m : Int) := by omega
 go_wp2_with fail; (with_reducible refine (K1.out _ bwz).mono ?_); rintro e w2 ⟨rfl, hbw2⟩; obtain ⟨hcw2, hfw2⟩ := bcell hbw2; have hzw2 := hbw2.size; have zzw20 : w1.heap.size < w2.heap.size := (by first | omega | (simp at hzw2; omega)); have zzw21 : w1.heap.size + 1 < w2.heap.size := (by first | omega | (simp at hzw2; omega))
 go_wp2_with fail; (with_reducible refine (K2.out _ bwz).mono ?_); rintro e w3 ⟨rfl, hbw3⟩; obtain ⟨hcw3, hfw3⟩ := bcell hbw3; have hzw3 := hbw3.size; have zzw30 : w1.heap.size < w3.heap.size := (by first | omega | (simp at hzw3; omega)); have zzw31 : w1.heap.size + 1 < w3.heap.size := (by first | omega | (simp at hzw3; omega)); have zzw32 : w2.heap.size < w3.heap.size := (by first | omega | (simp at hzw3; omega))
 go_upto_region 10 with fail
 obtain ⟨wA, hA⟩ : ∃ W, W = w3.alloc (.cells #[.int .i64 x9, .int .i64 y9] 25) := ⟨_, rfl⟩
 have a0 := hide (show CoAt wA w1.heap.size ax ay bx bY cx cy dx dy (some ⟨b5, o5, none⟩) m mcap by rw [hA]; exact ⟨by go_simp, by go_simp, by go_simp, by go_simp, by go_simp, by go_simp, by go_simp, by go_simp, by go_simp⟩)
 have a1 : wA.cell? ⟨w1.heap.size + 1, 0, none⟩ = some (.slice so2 n2 cap2) := by rw [hA]; go_simp
 have a2 : wA.cell? ⟨w2.heap.size, 0, none⟩ = some (.int .i64 x9) := by rw [hA]; go_simp
 have a3 : wA.cell? ⟨w2.heap.size, 1, none⟩ = some (.int .i64 y9) := by rw [hA]; go_simp
 have HA := hide (show Below w1.heap.size w1 wA by rw [hA]; exact bwz)
 have zA0 : w1.heap.size < wA.heap.size := by rw [hA]; simp; omega
 have zA1 : w1.heap.size + 1 < wA.heap.size := by rw [hA]; simp; omega
 have zA2 : w2.heap.size < wA.heap.size := by rw [hA]; simp; omega
 have zA5 : b5 < wA.heap.size := by omega
 have m1 := cell_later HA.out cx1
 have m2 : wA.cell? ⟨b5, o5 + K * 5 + 1 + 1, none⟩ = some (.int .i64 (Y K)) := cell_later HA.out cy1
 rw [← hA]
 clear hA hcw2 hfw2 hbw2 hzw2 hcw3 hfw3 hbw3 hzw3 K1 K2 cx1 cy1
 obtain ⟨o0, o1, o2, o3, o4, o5', o6, o7, o8⟩ := a0.out
 refine wp_region_held_drew (S := fun W => Below wA.heap.size wA W) (by kernel_rfl) (Below.drew (by first | with_reducible exact Below.refl _ _ | with_reducible exact below_drewN (Below.refl _ _) _)) (fun hHeld => ?_)
 refine tkL 0 (some 59) rfl ?_; simp only [pz]
 refine tkN 1 (some 60) rfl ?_; simp only [pz]
 refine tkL 2 (some 61) rfl ?_; simp only [pz]
 refine tkN 3 (some 62) rfl ?_; simp only [pz]
 refine tkN 4 (some 63) rfl ?_; simp only [pz]
 refine tkN 5 (some 64) rfl ?_; simp only [pz]
 refine tkL 6 (some 65) rfl ?_; simp only [pz]
 refine wpAnyH_inv2 (fuel := 0) [7, 8, 9, 10, 11, 12] [] [66, 58, 67, 68, 12, 13] (fun uT L W => Below wA.heap.size wA W ∧ (L 7 → (uT 66) = (.tuple #[.int .i64 d9, .int .i64 0])) ∧ (L 8 → (uT 58) = (.tuple #[.int .i64 d9, .int .i64 0])) ∧ (L 9 → (uT 67) = (.int .i64 d9)) ∧ (L 10 → (uT 68) = (.int .i64 0)) ∧ (L 11 → (uT 12) = (.int .i64 d9)) ∧ (L 12 → (uT 13) = (.int .i64 0)) ∧ True) (by decide) (by kernel_rfl) (by kernel_rfl) (by intro _ _ _ _ _ h; exact h) (fun uT L W hJ => hJ.1) (fun uT L hL => ⟨hHeld, fun k => absurd k (hL 7 (by decide)), fun k => absurd k (hL 8 (by decide)), fun k => absurd k (hL 9 (by decide)), fun k => absurd k (hL 10 (by decide)), fun k => absurd k (hL 11 (by decide)), fun k => absurd k (hL 12 (by decide)), trivial⟩) ?_ ?_ ?_
 ·refine sc1 66 ?_ ?_
  rotate_left
  refine sc1 58 ?_ ?_
  rotate_left
  refine sc1 67 ?_ ?_
  rotate_left
  refine sc1 68 ?_ ?_
  rotate_left
  refine sc1 12 ?_ ?_
  rotate_left
  refine sc1 13 ?_ ?_
  rotate_left
  exact StepsH.nil
  ·intro uT L W hn hd hJ
   obtain ⟨hk, f66, f58, f67, f68, f12, f13, _⟩ := hJ
   intro K hK
   simp only [puts, pz]
   go_simp; (go_at_call 15; (with_reducible refine (KS.out _).mono ?_); rintro e w9 ⟨rfl, hb⟩; have hzz := hb.size)
   all_goals (try go_wp2_with fail)
   all_goals
    apply Shut.go4 (W := W) hK
    ·simp only [puts, pz]; rfl
    ·exact bez
    ·intro hb; exact ⟨bstep hk hb, fun _ => upd_same _ _ _, unz f58, unz f67, unz f68, unz f12, unz f13, trivial⟩
  ·intro uT L W hn hd hJ
   obtain ⟨hk, f66, f58, f67, f68, f12, f13, _⟩ := hJ
   obtain e66 := f66 (hd 7 (by kernel_rfl))
   intro K hK
   simp only [puts, pz, e66]
   go_simp
   all_goals (try go_wp2_with fail)
   all_goals
    apply Shut.go4 (W := W) hK
    ·simp only [puts, pz, e66]; rfl
    ·exact bez
    ·intro hb; exact ⟨bstep hk hb, unz f66, fun _ => upd_same _ _ _, unz f67, unz f68, unz f12, unz f13, trivial⟩
  ·intro uT L W hn hd hJ
   obtain ⟨hk, f66, f58, f67, f68, f12, f13, _⟩ := hJ
   obtain e58 := f58 (hd 8 (by kernel_rfl))
   intro K hK
   simp only [puts, pz, e58]
   go_simp
   all_goals (try go_wp2_with fail)
   all_goals
    apply Shut.go4 (W := W) hK
    ·simp only [puts, pz, e58]; rfl
    ·exact bez
    ·intro hb; exact ⟨bstep hk hb, unz f66, unz f58, fun _ => upd_same _ _ _, unz f68, unz f12, unz f13, trivial⟩
  ·intro uT L W hn hd hJ
   obtain ⟨hk, f66, f58, f67, f68, f12, f13, _⟩ := hJ
   obtain e58 := f58 (hd 8 (by kernel_rfl))
   intro K hK
   simp only [puts, pz, e58]
   go_simp
   all_goals (try go_wp2_with fail)
   all_goals
    apply Shut.go4 (W := W) hK
    ·simp only [puts, pz, e58]; rfl
    ·exact bez
    ·intro hb; exact ⟨bstep hk hb, unz f66, unz f58, unz f67, fun _ => upd_same _ _ _, unz f12, unz f13, trivial⟩
  ·intro uT L W hn hd hJ
   obtain ⟨hk, f66, f58, f67, f68, f12, f13, _⟩ := hJ
   obtain e67 := f67 (hd 9 (by kernel_rfl))
   intro K hK
   simp only [puts, pz, e67]
   go_simp
   all_goals (try go_wp2_with fail)
   all_goals
    apply Shut.go4 (W := W) hK
    ·simp only [puts, pz, e67]; rfl
    ·exact bez
    ·intro hb; exact ⟨bstep hk hb, unz f66, unz f58, unz f67, unz f68, fun _ => upd_same _ _ _, unz f13, trivial⟩
  ·intro uT L W hn hd hJ
   obtain ⟨hk, f66, f58, f67, f68, f12, f13, _⟩ := hJ
   obtain e68 := f68 (hd 10 (by kernel_rfl))
   intro K hK
   simp only [puts, pz, e68]
   go_simp
   all_goals (try go_wp2_with fail)
   all_goals
    apply Shut.go4 (W := W) hK
    ·simp only [puts, pz, e68]; rfl
    ·exact bez
    ·intro hb; exact ⟨bstep hk hb, unz f66, unz f58, unz f67, unz f68, unz f12, fun _ => upd_same _ _ _, trivial⟩
 ·exact PuresH.nil
 ·intro uT L W hJ hL
  obtain ⟨hk, f66, f58, f67, f68, f12, f13, _⟩ := hJ
  obtain e66 := f66 (hL 7 (by kernel_rfl))
  obtain e58 := f58 (hL 8 (by kernel_rfl))
  obtain e67 := f67 (hL 9 (by kernel_rfl))
  obtain e68 := f68 (hL 10 (by kernel_rfl))
  obtain e12 := f12 (hL 11 (by kernel_rfl))
  obtain e13 := f13 (hL 12 (by kernel_rfl))
  clear hHeld; have hcW := (bcell hk).1; have hfW := (bcell hk).2; have lW := Below.size hk; have hHeld := hk
  clear f66
  clear f58
  clear f67
  clear f68
  clear f12
  clear f13
  simp only [puts, pz, Array.replicate, e66, e58, e67, e68, e12, e13]
  refine wpAnyH_done (by kernel_rfl) ?_ _; (try simp only [pz])
  have p0 := hide (CoAt.later hHeld a0.out)
  have p1 := cell_later hHeld a1
  have HP := hide (bstep HA.out hHeld)
  clear o0 o1 o2 o3 o4 o5' o6 o7 o8 a0 a1 a2 a3 m1 m2
  go_wp2_with (go_at_call 21; (with_reducible refine (KR.out _).mono ?_); rintro e w9 ⟨rfl, rfl⟩)
  go_loopw [16] (fun i wr => ∃ j : Nat, j ≤ n2 ∧ i = .int .i64 (j : Int) ∧ CoAt wr w1.heap.size ax ay bx bY cx cy dx dy (some ⟨b5, o5, none⟩) m mcap ∧ wr.cell? ⟨w1.heap.size + 1, 0, none⟩ = some (.slice so2 n2 cap2) ∧ Below w1.heap.size w1 wr) (fun i _ => n2 - (intOf i).toNat)
  case atStart => exact ⟨0, Nat.zero_le _, rfl, p0.out, p1, HP.out⟩
  case round =>
   clear p0 p1
   obtain ⟨j, hj, rfl, c0, c1, hbl⟩ := hrel
   have C0 := hide c0
   have HB2 := hide hbl
   have zr := hbl.size
   obtain ⟨o0, o1, o2, o3, o4, o5', o6, o7, o8⟩ := c0
   have zr0 := World.block_lt_of_cell? _ _ o0
   have zr1 := World.block_lt_of_cell? _ _ c1
   simp only at zr0 zr1
   by_cases hlt : j < n2
   ·obtain ⟨D0, D1, KD⟩ := HD.out j hlt
    have D2 := HN.out j hlt
    obtain ⟨D, hD⟩ : ∃ D, D = rt (sq (U j) (V j) (X K) (Y K)) := ⟨_, rfl⟩
    rw [← hD] at D0 D1 KD D2
    have KD := hide KD
    clear hD hbl
    obtain ⟨bT, oT, rfl, hbT, e0, _, _⟩ := (RowAt.later HB2.out HR.out).at3 j hlt
    have hi1 : (0 : Int) ≤ (j : Int) := by omega
    have hi2 : (j : Int) < (n2 : Int) := by omega
    go_upto_region 15 with fail
    refine wp_region_held_drew (S := fun W => Below wr.heap.size wr W) (by kernel_rfl) (Below.drew (by first | with_reducible exact Below.refl _ _ | with_reducible exact below_drewN (Below.refl _ _) _)) (fun hHeld => ?_)
    refine tkL 0 (some 82) rfl ?_; simp only [pz]
    refine tkN 1 (some 83) rfl ?_; simp only [pz]
    refine tkL 2 (some 84) rfl ?_; simp only [pz]
    refine tkN 3 (some 85) rfl ?_; simp only [pz]
    refine tkL 4 (some 86) rfl ?_; simp only [pz]
    refine tkN 5 (some 87) rfl ?_; simp only [pz]
    refine tkN 6 (some 88) rfl ?_; simp only [pz]
    refine tkN 7 (some 89) rfl ?_; simp only [pz]
    refine tkL 8 (some 90) rfl ?_; simp only [pz]
    refine wpAnyH_inv2 (fuel := 0) [9, 10, 11, 12, 13, 14] [] [91, 81, 92, 93, 17, 18] (fun uT L W => Below wr.heap.size wr W ∧ (L 9 → (uT 91) = (.tuple #[.int .i64 D, .int .i64 0])) ∧ (L 10 → (uT 81) = (.tuple #[.int .i64 D, .int .i64 0])) ∧ (L 11 → (uT 92) = (.int .i64 D)) ∧ (L 12 → (uT 93) = (.int .i64 0)) ∧ (L 13 → (uT 17) = (.int .i64 D)) ∧ (L 14 → (uT 18) = (.int .i64 0)) ∧ True) (by decide) (by kernel_rfl) (by kernel_rfl) (by intro _ _ _ _ _ h; exact h) (fun uT L W hJ => hJ.1) (fun uT L hL => ⟨hHeld, fun k => absurd k (hL 9 (by decide)), fun k => absurd k (hL 10 (by decide)), fun k => absurd k (hL 11 (by decide)), fun k => absurd k (hL 12 (by decide)), fun k => absurd k (hL 13 (by decide)), fun k => absurd k (hL 14 (by decide)), trivial⟩) ?_ ?_ ?_
    ·refine sc1 91 ?_ ?_
     rotate_left
     refine sc1 81 ?_ ?_
     rotate_left
     refine sc1 92 ?_ ?_
     rotate_left
     refine sc1 93 ?_ ?_
     rotate_left
     refine sc1 17 ?_ ?_
     rotate_left
     refine sc1 18 ?_ ?_
     rotate_left
     exact StepsH.nil
     ·intro uT L W hn hd hJ
      obtain ⟨hk, f91, f81, f92, f93, f17, f18, _⟩ := hJ
      intro K hK
      simp only [puts, pz]
      go_simp; (go_at_call 12; (with_reducible refine (KD.out _ (bstep HB2.out hk)).mono ?_); rintro e w9 ⟨rfl, hb⟩; have hzz := hb.size)
      all_goals (try go_wp2_with fail)
      all_goals
       apply Shut.go4 (W := W) hK
       ·simp only [puts, pz]; rfl
       ·exact bez
       ·intro hb; exact ⟨bstep hk hb, fun _ => upd_same _ _ _, unz f81, unz f92, unz f93, unz f17, unz f18, trivial⟩
     ·intro uT L W hn hd hJ
      obtain ⟨hk, f91, f81, f92, f93, f17, f18, _⟩ := hJ
      obtain e91 := f91 (hd 9 (by kernel_rfl))
      intro K hK
      simp only [puts, pz, e91]
      go_simp
      all_goals (try go_wp2_with fail)
      all_goals
       apply Shut.go4 (W := W) hK
       ·simp only [puts, pz, e91]; rfl
       ·exact bez
       ·intro hb; exact ⟨bstep hk hb, unz f91, fun _ => upd_same _ _ _, unz f92, unz f93, unz f17, unz f18, trivial⟩
     ·intro uT L W hn hd hJ
      obtain ⟨hk, f91, f81, f92, f93, f17, f18, _⟩ := hJ
      obtain e81 := f81 (hd 10 (by kernel_rfl))
      intro K hK
      simp only [puts, pz, e81]
      go_simp
      all_goals (try go_wp2_with fail)
      all_goals
       apply Shut.go4 (W := W) hK
       ·simp only [puts, pz, e81]; rfl
       ·exact bez
       ·intro hb; exact ⟨bstep hk hb, unz f91, unz f81, fun _ => upd_same _ _ _, unz f93, unz f17, unz f18, trivial⟩
     ·intro uT L W hn hd hJ
      obtain ⟨hk, f91, f81, f92, f93, f17, f18, _⟩ := hJ
      obtain e81 := f81 (hd 10 (by kernel_rfl))
      intro K hK
      simp only [puts, pz, e81]
      go_simp
      all_goals (try go_wp2_with fail)
      all_goals
       apply Shut.go4 (W := W) hK
       ·simp only [puts, pz, e81]; rfl
       ·exact bez
       ·intro hb; exact ⟨bstep hk hb, unz f91, unz f81, unz f92, fun _ => upd_same _ _ _, unz f17, unz f18, trivial⟩
     ·intro uT L W hn hd hJ
      obtain ⟨hk, f91, f81, f92, f93, f17, f18, _⟩ := hJ
      obtain e92 := f92 (hd 11 (by kernel_rfl))
      intro K hK
      simp only [puts, pz, e92]
      go_simp
      all_goals (try go_wp2_with fail)
      all_goals
       apply Shut.go4 (W := W) hK
       ·simp only [puts, pz, e92]; rfl
       ·exact bez
       ·intro hb; exact ⟨bstep hk hb, unz f91, unz f81, unz f92, unz f93, fun _ => upd_same _ _ _, unz f18, trivial⟩
     ·intro uT L W hn hd hJ
      obtain ⟨hk, f91, f81, f92, f93, f17, f18, _⟩ := hJ
      obtain e93 := f93 (hd 12 (by kernel_rfl))
      intro K hK
      simp only [puts, pz, e93]
      go_simp
      all_goals (try go_wp2_with fail)
      all_goals
       apply Shut.go4 (W := W) hK
       ·simp only [puts, pz, e93]; rfl
       ·exact bez
       ·intro hb; exact ⟨bstep hk hb, unz f91, unz f81, unz f92, unz f93, unz f17, fun _ => upd_same _ _ _, trivial⟩
    ·exact PuresH.nil
    ·intro uT L W hJ hL
     obtain ⟨hk, f91, f81, f92, f93, f17, f18, _⟩ := hJ
     obtain e91 := f91 (hL 9 (by kernel_rfl))
     obtain e81 := f81 (hL 10 (by kernel_rfl))
     obtain e92 := f92 (hL 11 (by kernel_rfl))
     obtain e93 := f93 (hL 12 (by kernel_rfl))
     obtain e17 := f17 (hL 13 (by kernel_rfl))
     obtain e18 := f18 (hL 14 (by kernel_rfl))
     clear hHeld; have hcW := (bcell hk).1; have hfW := (bcell hk).2; have lW := Below.size hk; have hHeld := hk
     clear f91
     clear f81
     clear f92
     clear f93
     clear f17
     clear f18
     simp only [puts, pz, Array.replicate, e91, e81, e92, e93, e17, e18]
     refine wpAnyH_done (by kernel_rfl) ?_ _; (try simp only [pz])
     go_wp2
     go_roundw
     case rel => exact ⟨j + 1, by omega, by go_num, CoAt.later hHeld C0.out, cell_later hHeld c1, bstep HB2.out hHeld⟩
     case measure => simp [intOf]; omega
   ·obtain rfl : j = n2 := by omega
    go_wp2
    go_ret
    exact ⟨rfl, HB1.out.trans (hbl.mono hz1)⟩

set_option maxRecDepth 100000 in
theorem FnNearest_lifted (os : Os) (started : os.Started) (H : Type) (enc : TypeId × Value → H) :
 ReturnsInHanded {} Tryz.checked os 4 .any (fun w args => (Rows.fnNearestSpec.pre enc Tryz.prog Tryz.f4 [] false w args ∧ laidMetH Tryz.prog Rows.fnNearestRow.laid w) ∧ sizedMet enc Tryz.prog Tryz.f4 (OpenSpec.ofChange Rows.fnNearestSpec) false w args) (Rows.fnNearestSpec.post enc Tryz.prog Tryz.f4 false true false false) := by
 refine returnsInHanded_of_change_and (C := Tryz.checked) (X := fun w _ => laidMetH Tryz.prog Rows.fnNearestRow.laid w) (fun _ _ _ hh h => h.of_heap hh) Tryz.own started (by as_aux_lemma => kernel_rfl) Tryz.func4
  (ChangeSpec.witness_shaped (enc := enc) (C := Tryz.checked) (os := os) (X := fun w _ => laidMetH Tryz.prog Rows.fnNearestRow.laid w) false (World.laidAll Tryz.prog os Rows.fnNearestRow.laid) #[.slice none 0 0] 8 (World.laidAll_os _ _ _) (World.shaped_of_ZipB (by as_aux_lemma => kernel_rfl) (by as_aux_lemma => kernel_rfl)) (by as_aux_lemma => kernel_rfl) (by as_aux_lemma => kernel_rfl) (by as_aux_lemma => kernel_rfl) (by rw [MakeChecks.laidMetH_plain _ _ _ (by as_aux_lemma => kernel_rfl)]; exact laidMet_laidAll _ (by as_aux_lemma => kernel_rfl) (by as_aux_lemma => kernel_rfl))) ?_
 intro W base args ds gs before hval0 hW _ _ hL _
 have hval : ∀ (j : Nat) t v, Tryz.f4.params[j]? = some t → args[j]? = some v → Value.okWide Tryz.prog W .any base t v := hval0
 have hW' := hW
 obtain ⟨p, q, hA0, hV, rfl, _, _⟩ := hW
 have hA : DataW.TrodAll enc Tryz.prog W 0 (fun _ => true) true Tryz.f4.params.toList args.toList ds p := hA0
 rw [Tryz.params4] at hA hval
 obtain ⟨v0, vs0, d0, ds0, p0, q0, hargs, rfl, rfl, h0, r0⟩ := trodAll_cons hA
 obtain ⟨rfl, rfl, rfl⟩ := trodAll_nil r0
 obtain rfl : args = #[v0] := by cases args; simp_all
 obtain ⟨so0, n0, cp0, B0, rfl, hl0, hr0, hB0⟩ := op_bytes (hval 0 22 v0 rfl rfl) h0
 obtain ⟨rfl, rfl⟩ := trodVars_none hV
 refine (laws_FnNearest so0 n0 cp0 B0 W hl0 hr0 hB0).mono fun e W1 ⟨he, hb⟩ => ⟨_, he, ?_⟩
 exact law_post Tryz.laidOut (by as_aux_lemma => kernel_rfl) Tryz.underlying4 rfl rfl hW' rfl rfl rfl hb
set_option maxHeartbeats 8000000 in
theorem FnNearest_closed : joinedFacts Tryz.prog 4 Tryz.f4 Rows.fnNearestSpec Rows.fnNearestRow = true := by
 simp only [joinedFacts, Bool.and_eq_true, Tryz.laidOut, Tryz.mapsRowed, Tryz.stopsNone, Tryz.stopKnobsNone, Tryz.plainKeysIs, Tryz.stopsHeardIs, Tryz.mayEnterIs, Tryz.liftsFinalIs, Tryz.makeIs, and_true]
 repeat' (with_reducible refine And.intro ?_ ?_)
 all_goals (as_aux_lemma => kernel_rfl)
set_option maxHeartbeats 8000000 in
/-- FnNearest: whatever the input, the law returns true, and the input reads as it did. -/
theorem FnNearest_row : Rows.FnNearestSaid :=
 OpenClaim.holds_of_wide 4 Tryz.f4 rfl rfl rfl rfl rfl rfl rfl ⟨rfl, rfl, rfl, rfl, rfl⟩ rfl rfl rfl rfl rfl (by as_aux_lemma => kernel_rfl) Tryz.func4
  FnNearest_closed
  (of_decide_eq_true (by as_aux_lemma => kernel_rfl)) (by unfold Func.isWrapper; rw [if_neg (of_decide_eq_false (by as_aux_lemma => kernel_rfl))]; exact ⟨rfl, rfl⟩)
  (fun os started H enc _ => FnNearest_lifted os started H enc)

set_option maxHeartbeats 8000000 in
/-- FnNearest: the tied card. -/
theorem FnNearest_holds : Rows.FnNearestCardSaid :=
 Claim7.holds_tied_plain_at .later [] [.data, .pinned] true (true, "ecc344695a176d2d207475dfdbbdb0fec1d7efab3067b4dfaa0c36aeb15b4ba9") false
  FnNearest_row (fun _ h => by cases h) (by as_aux_lemma => kernel_rfl) (fun _ h => by cases h) fnNearest_row_tie rfl ⟨rfl, rfl⟩ (by as_aux_lemma => kernel_rfl) rfl
  (fun f fn hf hfn => by
   obtain rfl : f = 4 := Option.some.inj ((show Tryz.prog.funcNamed Rows.fnNearestRow.func = some 4 by kernel_rfl).symm.trans hf) |>.symm
   obtain rfl : fn = Tryz.f4 := (Option.some.inj (Tryz.func4.symm.trans hfn)).symm
   exact ⟨by kernel_rfl, fun j t ht => by
    rw [Tryz.params4] at ht
    have hm : t ∈ [22] := by simpa using Array.mem_of_getElem? ht
    have hall : ([22].all fun u => !Tryz.prog.wantsStandIn u) = true := by kernel_rfl
    exact (show Tryz.prog.wantsStandIn t = false by simpa using List.all_eq_true.1 hall t hm)⟩)
  (by as_aux_lemma => kernel_rfl)
#print axioms FnNearest_holds
end Go.Proofs.YtgcdgdnmcdffoaaGreatDoor
