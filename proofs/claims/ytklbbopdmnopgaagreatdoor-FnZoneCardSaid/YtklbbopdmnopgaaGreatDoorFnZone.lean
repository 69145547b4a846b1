/- FnZone holds: a boat is in a zone exactly if its distance to the mark is at most the radius, and then a leg at that time touches the zone; for every code. What the program's text lays in the library's table is all that the card takes. -/
import Derived.Test.YtklbbopdmnopgaaGreatDoorYt
import Derived.Test.YtklbbopdmnopgaaGreatDoorYm
import Derived.Test.YtklbbopdmnopgaaGreatDoorEb
import Derived.Test.YtklbbopdmnopgaaGreatDoorZb
import Derived.Test.YtklbbopdmnopgaaGreatDoorLh
import Derived.Test.YtklbbopdmnopgaaGreatDoorZc
import Derived.Test.YtklbbopdmnopgaaGreatDoorMk
import Derived.Test.YtklbbopdmnopgaaGreatDoorLaw
import Derived.Test.YtklbbopdmnopgaaGreatDoorTie
import Derived.Test.YtklbbopdmnopgaaGreatDoorCards
import Derived.Lay
import Derived.LaidMore
import Derived.OpenShut
import Derived.Stop.Joined
import Derived.SevenTiedAt
namespace Go.Proofs.YtklbbopdmnopgaaGreatDoor
open Go.ChangeShapes Go.WideShapes Go.ChangeAt Go.RowKit

theorem izC_t {co tr : Bool} {n : Nat} {k : Int} {tin : Bool} (h : izC co tr n k tin = 0) : zoC co tr n k = 0 ∧ tin = true := by
 rcases iz_cases co tr n k tin with ⟨z, _, hc⟩ | ⟨_, _, _, hc⟩ | ⟨z, ht, _, _⟩
 ·rw [hc] at h; exact absurd h z
 ·rw [hc] at h; exact absurd h (by decide)
 ·exact ⟨z, ht⟩
set_option maxRecDepth 100000 in
set_option maxHeartbeats 8000000 in
theorem laws_FnZone (so : Option Addr) (n cap : Nat) (B : Nat → Int) (w : World) (hl : n ≤ maxLen) (h : RowAt w so n 1 (vb B)) (hB : ∀ i, 0 ≤ B i ∧ B i ≤ 255) :
 Calls Tryz.prog 3 #[.slice so n cap] w fun e w' => e = .returned (.bool true) ∧ Below w.heap.size w w' := by
 unfold maxLen at hl
 by_cases hn : 4096 < n
 ·have Hd := hide (decide_eq_true hn)
  go_enter Tryz.func3, Tryz.ntmps3
  go_wp2_with (go_at_call 4; (with_reducible refine (laws_big _ _ _ _ (by omega)).mono ?_); rintro e w9 ⟨rfl, rfl⟩; rw [Hd.out])
  go_ret
  exact ⟨rfl, bwz⟩
 have Hd := hide (decide_eq_false hn)
 go_enter Tryz.func3, Tryz.ntmps3
 go_wp2_with fail; (with_reducible refine (laws_big _ _ _ _ (by omega)).mono ?_); rintro e w0 ⟨rfl, rfl⟩; rw [Hd.out]
 go_wp2_with fail; (with_reducible refine (spec_DrawInZoneAt so n cap B _ h hB (by omega)).mono ?_); rintro e w1 ⟨⟨ax, ay, bx, bY, cx, cy, dx, dy, cs, m, mcap, N, X, Y, S, Z, k, tm, so2, n2, cap2, T, U, V, rfl, hm, hmc, hn2, hc, hr⟩, hb1⟩; have hz1 := hb1.size
 have HC := hide hc
 have HR := hide hr
 have HB1 := hide hb1
 clear hc hr hb1 hB h Hd
 have KI := hide (fun t W (hb : Below w1.heap.size w1 W) => impl_InZoneAt ax ay bx bY cx cy dx dy cs m mcap N X Y S Z k so2 n2 cap2 T U V t W (RowAt.later hb HC.out) (by omega) hmc (RowAt.later hb HR.out) (by omega))
 have KS := hide (fun t W (hb : Below w1.heap.size w1 W) => spec_InZoneAt ax ay bx bY cx cy dx dy cs m mcap N X Y S Z k so2 n2 cap2 T U V t W (RowAt.later hb HC.out) (by omega) (RowAt.later hb HR.out) (by omega))
 by_cases hz : izC (isCo ax ay bx bY cx cy dx dy m N X Y S Z) (isTr n2 T U V) m k (inB tm (T 0) (T (n2 - 1))) = 0
 case neg =>
  have K1 := hide (KI.out tm)
  have K2 := hide (KS.out tm)
  clear KI KS
  generalize selB (izOk (isCo ax ay bx bY cx cy dx dy m N X Y S Z) (isTr n2 T U V) m k (inB tm (T 0) (T (n2 - 1)))) (decide (dsq n2 T U V tm X Y k ≤ Z k.toNat * Z k.toNat)) false = b9 at *
  generalize izC (isCo ax ay bx bY cx cy dx dy m N X Y S Z) (isTr n2 T U V) m k (inB tm (T 0) (T (n2 - 1))) = c9 at *
  have d1 : (c9 != 0) = true := bne_iff_ne.2 hz
  go_wp2_with fail; (with_reducible refine (K1.out _ bwz).mono ?_); rintro e w2 ⟨rfl, hbw2⟩; obtain ⟨hcw2, hfw2⟩ := bcell hbw2; have hzw2 := hbw2.size; have zzw20 : w1.heap.size < w2.heap.size := (by first | omega | (simp at hzw2; omega)); have zzw21 : w1.heap.size + 1 < w2.heap.size := (by first | omega | (simp at hzw2; omega))
  go_wp2_with fail; (with_reducible refine (K2.out _ bwz).mono ?_); rintro e w3 ⟨rfl, hbw3⟩; obtain ⟨hcw3, hfw3⟩ := bcell hbw3; have hzw3 := hbw3.size; have zzw30 : w1.heap.size < w3.heap.size := (by first | omega | (simp at hzw3; omega)); have zzw31 : w1.heap.size + 1 < w3.heap.size := (by first | omega | (simp at hzw3; omega))
  have hb1 := HB1.out
  go_wp2
  go_ret
  exact ⟨rfl, bwz⟩
 obtain ⟨z, hin⟩ := izC_t hz
 obtain ⟨v1, v2, k0, k1⟩ := zo_tt z
 obtain ⟨K, rfl⟩ : ∃ K : Nat, k = (K : Int) := ⟨k.toNat, by omega⟩
 have hK : K < m := by omega
 obtain ⟨b5, o5, rfl, hb5, _, cx1, cy1, _, cz1⟩ := HC.out.at5 K hK
 obtain ⟨_, hmk, _, hz1', hz2'⟩ := isMk_t ((isCo_t v1).2.2.2.2 K hK)
 obtain ⟨hn0, _, hall⟩ := isTr_t v2
 have hpt := posX_pt v2 hin
 obtain ⟨q0, q1⟩ := sq_pt hpt hmk
 obtain ⟨q2, q3⟩ := rt_spec q0
 have t0 := rt_nonneg (sq (posX n2 T U tm) (posX n2 T V tm) (X K) (Y K))
 have t1 : rt (sq (posX n2 T U tm) (posX n2 T V tm) (X K) (Y K)) ≤ 3000000 := rt_le q0 (by decide) (by omega)
 have hok : ∀ i, i < n2 → izOk (isCo ax ay bx bY cx cy dx dy m N X Y S Z) (isTr n2 T U V) m K (inB (T i) (T 0) (T (n2 - 1))) = true ∧ izC (isCo ax ay bx bY cx cy dx dy m N X Y S Z) (isTr n2 T U V) m K (inB (T i) (T 0) (T (n2 - 1))) = 0 ∧ dsq n2 T U V (T i) X Y K = sq (U i) (V i) (X K) (Y K) := fun i hi => ⟨by unfold izOk; rw [z, tr_in v2 hi]; rfl, by unfold izC; rw [z, tr_in v2 hi]; rfl, by unfold dsq; rw [posX_at v2 U i hi, posX_at v2 V i hi, Int.toNat_natCast]⟩
 have hok1 : izOk (isCo ax ay bx bY cx cy dx dy m N X Y S Z) (isTr n2 T U V) m K (inB tm (T 0) (T (n2 - 1))) = true := by unfold izOk; rw [z, hin]; rfl
 have hok2 : leOk (isCo ax ay bx bY cx cy dx dy m N X Y S Z) (isTr n2 T U V) m K (inB tm (T 0) (T (n2 - 1))) 7 = true := by unfold leOk; rw [hok1]; rfl
 have hok3 : leC (isCo ax ay bx bY cx cy dx dy m N X Y S Z) (isTr n2 T U V) m K (inB tm (T 0) (T (n2 - 1))) 7 = 0 := by unfold leC; rw [z, hin]; rfl
 have hds : dsq n2 T U V tm X Y K = sq (posX n2 T U tm) (posX n2 T V tm) (X K) (Y K) := by unfold dsq; rw [Int.toNat_natCast]
 have hLg : lgL (isCo ax ay bx bY cx cy dx dy m N X Y S Z) (isTr n2 T U V) m K n2 U V X Y Z = lgsZ (X K) (Y K) (Z K) U V (n2 - 1) := by unfold lgL; rw [if_pos z, Int.toNat_natCast]
 have KD := hide (fun W (hb : Below w1.heap.size w1 W) => impl_DistanceToMark ax ay bx bY cx cy dx dy (some ⟨b5, o5, none⟩) m mcap N X Y S Z K so2 n2 cap2 T U V tm W (RowAt.later hb HC.out) (by omega) hmc (RowAt.later hb HR.out) (by omega))
 have KL := hide (fun W (hb : Below w1.heap.size w1 W) => impl_LengthsToMark ax ay bx bY cx cy dx dy (some ⟨b5, o5, none⟩) m mcap N X Y S Z K so2 n2 cap2 T U V tm 7 W (RowAt.later hb HC.out) (by omega) hmc (RowAt.later hb HR.out) (by omega))
 have KG := hide (fun W (hb : Below w1.heap.size w1 W) => impl_LegsInZone ax ay bx bY cx cy dx dy (some ⟨b5, o5, none⟩) m mcap N X Y S Z K so2 n2 cap2 T U V W (RowAt.later hb HC.out) (by omega) hmc (RowAt.later hb HR.out) (by omega))
 have KP := hide (fun W (hb : Below w1.heap.size w1 W) => impl_PositionAt_ok so2 n2 cap2 T U V tm W (RowAt.later hb HR.out) v2 hin)
 have KQ := hide (fun W => impl_SquareDistance _ _ _ _ hpt hmk W)
 have K1 := hide (KI.out tm)
 have K2 := hide (KS.out tm)
 rw [hok1, hz, hds] at K1 K2
 rw [hok1, hz, hds] at KD
 rw [hok2, hok3, hds] at KL
 rw [hLg, z] at KG
 simp only [selB, sel, if_true, Int.toNat_natCast] at K1 K2 KD KL
 have HLl := lgsZ_len (X K) (Y K) (Z K) U V (n2 - 1)
 have HN := hide (show ∀ i, i + 1 < n2 → ∃ b : Bool, (b = true → (i : Int) ∈ lgsZ (X K) (Y K) (Z K) U V (n2 - 1)) ∧ ∀ W, Below w1.heap.size w1 W → Calls Tryz.prog 6 #[.agg #[.int .i64 ax, .int .i64 ay, .int .i64 bx, .int .i64 bY, .int .i64 cx, .int .i64 cy, .int .i64 dx, .int .i64 dy, .slice (some ⟨b5, o5, none⟩) m mcap], .int .i64 (K : Int), .agg #[.slice so2 n2 cap2], .int .i64 (T i)] W fun e w' => e = .returned (.tuple #[.bool b, .int .i64 0]) ∧ Below W.heap.size W w' from fun i hi => by
  obtain ⟨h1, h2, h3⟩ := hok i (by omega)
  refine ⟨decide (sq (U i) (V i) (X K) (Y K) ≤ Z K * Z K), fun h => lgsZ_has (by omega) (tou_of (of_decide_eq_true h)), fun W hb => ?_⟩
  have k9 := KI.out (T i) W hb
  rw [h1, h2, h3] at k9
  simp only [selB, if_true, Int.toNat_natCast] at k9
  exact k9)
 have hz3 : 1 ≤ Z K * Z K ∧ Z K * Z K ≤ 25000000 := ⟨Int.mul_pos (by omega) (by omega), Int.mul_le_mul hz2' hz2' (by omega) (by omega)⟩
 generalize lgsZ (X K) (Y K) (Z K) U V (n2 - 1) = Lg at *
 generalize sq (posX n2 T U tm) (posX n2 T V tm) (X K) (Y K) = e9 at *
 generalize posX n2 T U tm = x9 at *
 generalize posX n2 T V tm = y9 at *
 generalize rt e9 = d9 at *
 obtain ⟨zk, hzk⟩ : ∃ zk, zk = Z K := ⟨_, rfl⟩
 rw [← hzk] at cz1 hz3 hz1' hz2'
 obtain ⟨b9, hb9⟩ : ∃ b, b = decide (e9 ≤ Z K * Z K) := ⟨_, rfl⟩
 have K1 := hide (show ∀ W, Below w1.heap.size w1 W → Calls Tryz.prog 6 #[.agg #[.int .i64 ax, .int .i64 ay, .int .i64 bx, .int .i64 bY, .int .i64 cx, .int .i64 cy, .int .i64 dx, .int .i64 dy, .slice (some ⟨b5, o5, none⟩) m mcap], .int .i64 (K : Int), .agg #[.slice so2 n2 cap2], .int .i64 tm] W fun e w' => e = .returned (.tuple #[.bool b9, .int .i64 0]) ∧ Below W.heap.size W w' from fun W hb => (K1.out W hb).mono fun e w' h => ⟨h.1.trans (by rw [hb9]), h.2⟩)
 have K2 := hide (show ∀ W, Below w1.heap.size w1 W → Calls Tryz.prog 7 #[.agg #[.int .i64 ax, .int .i64 ay, .int .i64 bx, .int .i64 bY, .int .i64 cx, .int .i64 cy, .int .i64 dx, .int .i64 dy, .slice (some ⟨b5, o5, none⟩) m mcap], .int .i64 (K : Int), .agg #[.slice so2 n2 cap2], .int .i64 tm] W fun e w' => e = .returned (.tuple #[.bool b9, .int .i64 0]) ∧ Below W.heap.size W w' from fun W hb => (K2.out W hb).mono fun e w' h => ⟨h.1.trans (by rw [hb9]), h.2⟩)
 have hbz : decide (e9 ≤ zk * zk) = b9 := by rw [hb9, hzk]
 have hbb : (b9 != b9) = false := by cases b9 <;> rfl
 have s0 : 0 ≤ d9 * d9 := Int.mul_nonneg t0 t0
 have s1 : (d9 + 1) * (d9 + 1) = d9 * d9 + 2 * d9 + 1 := by grind
 have s2 : (d9 + 1) * (d9 + 1) ≤ 9000000000000000 := by omega
 have wa := hide (show IntKind.i64.wrap (d9 * d9) = d9 * d9 from IntWalk.i64_in _ (by omega))
 have wb := hide (show IntKind.i64.wrap ((d9 + 1) * (d9 + 1)) = (d9 + 1) * (d9 + 1) from IntWalk.i64_in _ (by omega))
 have wc := hide (show IntKind.i64.wrap (zk * zk) = zk * zk from IntWalk.i64_in _ (by omega))
 have wd := hide (show IntKind.i64.wrap (d9 + 1) = d9 + 1 from IntWalk.i64_in _ (by omega))
 have sa := hide (show ¬ e9 < d9 * d9 by omega)
 have sb := hide (show ¬ (d9 + 1) * (d9 + 1) ≤ e9 by omega)
 have hi5 : (0 : Int) ≤ (K : Int) := by omega
 have hi6 : (K : Int) < (m : Int) := by omega
 clear v1 v2 z hin hz hok hok1 hok2 hok3 hds hLg KI KS hall hmk hpt q0 q1 q2 q3 hz3 hz1' hz2' s0 s1 s2 hzk hb9
 go_wp2_with fail; (with_reducible refine (K1.out _ bwz).mono ?_); rintro e w2 ⟨rfl, hbw2⟩; obtain ⟨hcw2, hfw2⟩ := bcell hbw2; have hzw2 := hbw2.size; have zzw20 : w1.heap.size < w2.heap.size := (by first | omega | (simp at hzw2; omega)); have zzw21 : w1.heap.size + 1 < w2.heap.size := (by first | omega | (simp at hzw2; omega))
 go_wp2_with fail; (with_reducible refine (K2.out _ bwz).mono ?_); rintro e w3 ⟨rfl, hbw3⟩; obtain ⟨hcw3, hfw3⟩ := bcell hbw3; have hzw3 := hbw3.size; have zzw30 : w1.heap.size < w3.heap.size := (by first | omega | (simp at hzw3; omega)); have zzw31 : w1.heap.size + 1 < w3.heap.size := (by first | omega | (simp at hzw3; omega))
 go_wp2_with fail; (with_reducible refine (KD.out _ bwz).mono ?_); rintro e w4 ⟨rfl, hbw4⟩; obtain ⟨hcw4, hfw4⟩ := bcell hbw4; have hzw4 := hbw4.size; have zzw40 : w1.heap.size < w4.heap.size := (by first | omega | (simp at hzw4; omega)); have zzw41 : w1.heap.size + 1 < w4.heap.size := (by first | omega | (simp at hzw4; omega))
 go_wp2_with fail; (with_reducible refine (KL.out _ bwz).mono ?_); rintro e w5 ⟨rfl, hbw5⟩; obtain ⟨hcw5, hfw5⟩ := bcell hbw5; have hzw5 := hbw5.size; have zzw50 : w1.heap.size < w5.heap.size := (by first | omega | (simp at hzw5; omega)); have zzw51 : w1.heap.size + 1 < w5.heap.size := (by first | omega | (simp at hzw5; omega))
 go_wp2_with fail; (with_reducible refine (KP.out _ bwz).mono ?_); rintro e w6 ⟨rfl, hbw6⟩; obtain ⟨hcw6, hfw6⟩ := bcell hbw6; have hzw6 := hbw6.size; have zzw60 : w1.heap.size < w6.heap.size := (by first | omega | (simp at hzw6; omega)); have zzw61 : w1.heap.size + 1 < w6.heap.size := (by first | omega | (simp at hzw6; omega))
 go_upto_region 13 with fail
 obtain ⟨wA, hA⟩ : ∃ W, W = w6.alloc (.cells #[.int .i64 x9, .int .i64 y9] 25) := ⟨_, rfl⟩
 have a0 := hide (show CoAt wA w1.heap.size ax ay bx bY cx cy dx dy (some ⟨b5, o5, none⟩) m mcap by rw [hA]; exact ⟨by go_simp, by go_simp, by go_simp, by go_simp, by go_simp, by go_simp, by go_simp, by go_simp, by go_simp⟩)
 have a1 : wA.cell? ⟨w1.heap.size + 1, 0, none⟩ = some (.slice so2 n2 cap2) := by rw [hA]; go_simp
 have a2 : wA.cell? ⟨w6.heap.size, 0, none⟩ = some (.int .i64 x9) := by rw [hA]; go_simp
 have a3 : wA.cell? ⟨w6.heap.size, 1, none⟩ = some (.int .i64 y9) := by rw [hA]; go_simp
 have HA := hide (show Below w1.heap.size w1 wA by rw [hA]; exact bwz)
 have zA0 : w1.heap.size < wA.heap.size := by rw [hA]; simp; omega
 have zA1 : w1.heap.size + 1 < wA.heap.size := by rw [hA]; simp; omega
 have zA2 : w6.heap.size < wA.heap.size := by rw [hA]; simp
 have zA5 : b5 < wA.heap.size := by omega
 have m1 := cell_later HA.out cx1
 have m2 : wA.cell? ⟨b5, o5 + K * 5 + 1 + 1, none⟩ = some (.int .i64 (Y K)) := cell_later HA.out cy1
 have m3 := cell_later HA.out cz1
 rw [← hA]
 clear hA hcw2 hfw2 hbw2 hzw2 hcw3 hfw3 hbw3 hzw3 hcw4 hfw4 hbw4 hzw4 hcw5 hfw5 hbw5 hzw5 hcw6 hfw6 hbw6 hzw6 K1 K2 KD KL KP cx1 cy1 cz1
 obtain ⟨o0, o1, o2, o3, o4, o5', o6, o7, o8⟩ := a0.out
 refine wp_region_held_drew (S := fun W => Below wA.heap.size wA W) (by kernel_rfl) (Below.drew (by first | with_reducible exact Below.refl _ _ | with_reducible exact below_drewN (Below.refl _ _) _)) (fun hHeld => ?_)
 refine tkL 0 (some 83) rfl ?_; simp only [pz]
 refine tkN 1 (some 84) rfl ?_; simp only [pz]
 refine tkL 2 (some 85) rfl ?_; simp only [pz]
 refine tkN 3 (some 86) rfl ?_; simp only [pz]
 refine tkN 4 (some 87) rfl ?_; simp only [pz]
 refine tkN 5 (some 88) rfl ?_; simp only [pz]
 refine tkL 6 (some 89) rfl ?_; simp only [pz]
 refine wpAnyH_inv2 (fuel := 0) [7, 8, 9, 10, 11, 12] [] [90, 82, 91, 92, 17, 18] (fun uT L W => Below wA.heap.size wA W ∧ (L 7 → (uT 90) = (.tuple #[.int .i64 e9, .int .i64 0])) ∧ (L 8 → (uT 82) = (.tuple #[.int .i64 e9, .int .i64 0])) ∧ (L 9 → (uT 91) = (.int .i64 e9)) ∧ (L 10 → (uT 92) = (.int .i64 0)) ∧ (L 11 → (uT 17) = (.int .i64 e9)) ∧ (L 12 → (uT 18) = (.int .i64 0)) ∧ True) (by decide) (by kernel_rfl) (by kernel_rfl) (by intro _ _ _ _ _ h; exact h) (fun uT L W hJ => hJ.1) (fun uT L hL => ⟨hHeld, fun k => absurd k (hL 7 (by decide)), fun k => absurd k (hL 8 (by decide)), fun k => absurd k (hL 9 (by decide)), fun k => absurd k (hL 10 (by decide)), fun k => absurd k (hL 11 (by decide)), fun k => absurd k (hL 12 (by decide)), trivial⟩) ?_ ?_ ?_
 ·refine sc1 90 ?_ ?_
  rotate_left
  refine sc1 82 ?_ ?_
  rotate_left
  refine sc1 91 ?_ ?_
  rotate_left
  refine sc1 92 ?_ ?_
  rotate_left
  refine sc1 17 ?_ ?_
  rotate_left
  refine sc1 18 ?_ ?_
  rotate_left
  exact StepsH.nil
  ·intro uT L W hn hd hJ
   obtain ⟨hk, f90, f82, f91, f92, f17, f18, _⟩ := hJ
   intro K hK
   simp only [puts, pz]
   go_simp; (go_at_call 11; (with_reducible refine (KQ.out _).mono ?_); rintro e w9 ⟨rfl, hb⟩; have hzz := hb.size)
   all_goals (try go_wp2_with fail)
   all_goals
    apply Shut.go4 (W := W) hK
    ·simp only [puts, pz]; rfl
    ·exact bez
    ·intro hb; exact ⟨bstep hk hb, fun _ => upd_same _ _ _, unz f82, unz f91, unz f92, unz f17, unz f18, trivial⟩
  ·intro uT L W hn hd hJ
   obtain ⟨hk, f90, f82, f91, f92, f17, f18, _⟩ := hJ
   obtain e90 := f90 (hd 7 (by kernel_rfl))
   intro K hK
   simp only [puts, pz, e90]
   go_simp
   all_goals (try go_wp2_with fail)
   all_goals
    apply Shut.go4 (W := W) hK
    ·simp only [puts, pz, e90]; rfl
    ·exact bez
    ·intro hb; exact ⟨bstep hk hb, unz f90, fun _ => upd_same _ _ _, unz f91, unz f92, unz f17, unz f18, trivial⟩
  ·intro uT L W hn hd hJ
   obtain ⟨hk, f90, f82, f91, f92, f17, f18, _⟩ := hJ
   obtain e82 := f82 (hd 8 (by kernel_rfl))
   intro K hK
   simp only [puts, pz, e82]
   go_simp
   all_goals (try go_wp2_with fail)
   all_goals
    apply Shut.go4 (W := W) hK
    ·simp only [puts, pz, e82]; rfl
    ·exact bez
    ·intro hb; exact ⟨bstep hk hb, unz f90, unz f82, fun _ => upd_same _ _ _, unz f92, unz f17, unz f18, trivial⟩
  ·intro uT L W hn hd hJ
   obtain ⟨hk, f90, f82, f91, f92, f17, f18, _⟩ := hJ
   obtain e82 := f82 (hd 8 (by kernel_rfl))
   intro K hK
   simp only [puts, pz, e82]
   go_simp
   all_goals (try go_wp2_with fail)
   all_goals
    apply Shut.go4 (W := W) hK
    ·simp only [puts, pz, e82]; rfl
    ·exact bez
    ·intro hb; exact ⟨bstep hk hb, unz f90, unz f82, unz f91, fun _ => upd_same _ _ _, unz f17, unz f18, trivial⟩
  ·intro uT L W hn hd hJ
   obtain ⟨hk, f90, f82, f91, f92, f17, f18, _⟩ := hJ
   obtain e91 := f91 (hd 9 (by kernel_rfl))
   intro K hK
   simp only [puts, pz, e91]
   go_simp
   all_goals (try go_wp2_with fail)
   all_goals
    apply Shut.go4 (W := W) hK
    ·simp only [puts, pz, e91]; rfl
    ·exact bez
    ·intro hb; exact ⟨bstep hk hb, unz f90, unz f82, unz f91, unz f92, fun _ => upd_same _ _ _, unz f18, trivial⟩
  ·intro uT L W hn hd hJ
   obtain ⟨hk, f90, f82, f91, f92, f17, f18, _⟩ := hJ
   obtain e92 := f92 (hd 10 (by kernel_rfl))
   intro K hK
   simp only [puts, pz, e92]
   go_simp
   all_goals (try go_wp2_with fail)
   all_goals
    apply Shut.go4 (W := W) hK
    ·simp only [puts, pz, e92]; rfl
    ·exact bez
    ·intro hb; exact ⟨bstep hk hb, unz f90, unz f82, unz f91, unz f92, unz f17, fun _ => upd_same _ _ _, trivial⟩
 ·exact PuresH.nil
 ·intro uT L W hJ hL
  obtain ⟨hk, f90, f82, f91, f92, f17, f18, _⟩ := hJ
  obtain e90 := f90 (hL 7 (by kernel_rfl))
  obtain e82 := f82 (hL 8 (by kernel_rfl))
  obtain e91 := f91 (hL 9 (by kernel_rfl))
  obtain e92 := f92 (hL 10 (by kernel_rfl))
  obtain e17 := f17 (hL 11 (by kernel_rfl))
  obtain e18 := f18 (hL 12 (by kernel_rfl))
  clear hHeld; have hcW := (bcell hk).1; have hfW := (bcell hk).2; have lW := Below.size hk; have hHeld := hk
  clear f90
  clear f82
  clear f91
  clear f92
  clear f17
  clear f18
  simp only [puts, pz, Array.replicate, e90, e82, e91, e92, e17, e18]
  refine wpAnyH_done (by kernel_rfl) ?_ _; (try simp only [pz])
  have p0 := hide (CoAt.later hHeld a0.out)
  have p1 := cell_later hHeld a1
  have m4 := cell_later hHeld m3
  have HP := hide (bstep HA.out hHeld)
  clear o0 o1 o2 o3 o4 o5' o6 o7 o8 a0 a1 a2 a3 m1 m2 m3
  obtain ⟨o0, o1, o2, o3, o4, o5', o6, o7, o8⟩ := p0.out
  have xa := wa.out
  have xb := wb.out
  have xc := wc.out
  have xd := wd.out
  clear hcW hfW
  obtain ⟨wD, rfl⟩ : ∃ x : World, x = W := ⟨_, rfl⟩
  have zD0 := World.block_lt_of_cell? _ _ o8
  have zD1 := World.block_lt_of_cell? _ _ m4
  simp only at zD0 zD1
  go_upto_region 14 with fail
  have ya : ¬ e9 < d9 * d9 := by have := sa.out; omega
  have yb : ¬ (d9 + 1) * (d9 + 1) ≤ e9 := by have := sb.out; omega
  have yc : decide (e9 < d9 * d9) = false := decide_eq_false ya
  have yd : decide ((d9 + 1) * (d9 + 1) ≤ e9) = false := decide_eq_false yb
  have w00 : IntKind.i64.wrap 0 = 0 := rfl
  have hq7 : d9.tdiv 7 = d9 / 7 := Int.tdiv_eq_ediv_of_nonneg t0
  have hw7 : IntKind.i64.wrap (d9 / 7) = d9 / 7 := IntWalk.i64_in _ (by omega)
  have hw8 : IntKind.i64.wrap (d9.tdiv 7) = d9 / 7 := by rw [hq7]; exact hw7
  refine wp_region_held_drew (S := fun W => Below wD.heap.size wD W) (by kernel_rfl) (Below.drew (Below.refl _ _)) (fun hHeld => ?_)
  refine tkN 0 (some 93) rfl ?_; simp only [pz]
  refine tkN 1 (some 94) rfl ?_; simp only [pz]
  refine tkN 2 (some 95) rfl ?_; simp only [pz]
  refine tkN 3 (some 96) rfl ?_; simp only [pz]
  refine tkN 4 (some 97) rfl ?_; simp only [pz]
  refine tkN 5 (some 98) rfl ?_; simp only [pz]
  refine tkN 6 (some 99) rfl ?_; simp only [pz]
  refine tkN 7 (some 100) rfl ?_; simp only [pz]
  refine tkN 8 (some 101) rfl ?_; simp only [pz]
  refine tkN 9 (some 102) rfl ?_; simp only [pz]
  refine tkN 10 (some 103) rfl ?_; simp only [pz]
  refine tkN 11 (some 104) rfl ?_; simp only [pz]
  refine tkN 12 (some 105) rfl ?_; simp only [pz]
  refine tkN 13 (some 106) rfl ?_; simp only [pz]
  refine tkN 14 (some 107) rfl ?_; simp only [pz]
  refine tkN 15 (some 108) rfl ?_; simp only [pz]
  refine tkN 16 (some 109) rfl ?_; simp only [pz]
  refine tkN 17 (some 110) rfl ?_; simp only [pz]
  refine tkN 18 (some 111) rfl ?_; simp only [pz]
  refine tkN 19 (some 112) rfl ?_; simp only [pz]
  refine tkN 20 (some 113) rfl ?_; simp only [pz]
  refine tkN 21 (some 114) rfl ?_; simp only [pz]
  refine tkN 22 (some 115) rfl ?_; simp only [pz]
  refine tkN 23 (some 116) rfl ?_; simp only [pz]
  refine tkN 24 (some 117) rfl ?_; simp only [pz]
  refine tkN 25 (some 118) rfl ?_; simp only [pz]
  refine tkN 26 (some 119) rfl ?_; simp only [pz]
  refine tkN 27 (some 120) rfl ?_; simp only [pz]
  refine tkN 28 (some 121) rfl ?_; simp only [pz]
  refine tkN 29 (some 122) rfl ?_; simp only [pz]
  refine tkN 30 (some 123) rfl ?_; simp only [pz]
  refine tkN 31 (some 124) rfl ?_; simp only [pz]
  refine tkN 32 (some 125) rfl ?_; simp only [pz]
  refine tkN 33 (some 126) rfl ?_; simp only [pz]
  refine tkL 34 (some 127) rfl ?_; simp only [pz]
  refine tkN 35 (some 128) rfl ?_; simp only [pz]
  refine tkN 36 (some 129) rfl ?_; simp only [pz]
  refine tkN 37 (some 130) rfl ?_; simp only [pz]
  refine tkL 38 (some 131) rfl ?_; simp only [pz]
  refine tkN 39 (some 132) rfl ?_; simp only [pz]
  refine tkL 40 (some 133) rfl ?_; simp only [pz]
  refine tkN 41 (some 134) rfl ?_; simp only [pz]
  refine tkN 42 (some 135) rfl ?_; simp only [pz]
  refine tkN 43 (some 136) rfl ?_; simp only [pz]
  refine tkL 44 (some 137) rfl ?_; simp only [pz]
  refine tkN 45 (some 138) rfl ?_; simp only [pz]
  refine tkN 46 (some 139) rfl ?_; simp only [pz]
  refine tkN 47 (some 140) rfl ?_; simp only [pz]
  refine tkN 48 (some 141) rfl ?_; simp only [pz]
  refine wpAnyH_done (by kernel_rfl) ?_ _; (try simp only [pz])
  have HQ := hide (bstep HP.out hHeld)
  obtain ⟨wE, hE⟩ : ∃ W, W = wD.drew := ⟨_, rfl⟩
  rw [← hE] at hHeld HQ ⊢
  have u0 := hide (CoAt.later hHeld p0.out)
  have u1 := cell_later hHeld p1
  clear hE hHeld o0 o1 o2 o3 o4 o5' o6 o7 o8 p0 p1 m4 xa xb xc xd ya yb yc yd w00 zD0 zD1 hbz hbb hq7 hw7 hw8 HP
  obtain ⟨o0, o1, o2, o3, o4, o5', o6, o7, o8⟩ := u0.out
  go_wp2_with fail; (with_reducible refine (KG.out _ HQ.out).mono ?_); rintro e w7 ⟨so7, cp7, rfl, ho7, hb7⟩
  have H7 := hide (show RowAt w7 so7 Lg.length 1 (vI Lg) from (OwZ.of ho7).read)
  have HB7 := hide (bstep HQ.out hb7)
  have C7 := hide (CoAt.later hb7 u0.out)
  have t7 := cell_later hb7 u1
  clear ho7 hb7 o0 o1 o2 o3 o4 o5' o6 o7 o8 u0 u1 HQ KG
  go_wp2
  go_loopw [21] (fun i wr => ∃ j : Nat, j < n2 ∧ i = .int .i64 (j : Int) ∧ Hid (Below w7.heap.size w7 wr)) (fun i _ => n2 - (intOf i).toNat)
  case atStart => exact ⟨0, by omega, rfl, hide (Below.refl _ _)⟩
  case round =>
   obtain ⟨j, hj, rfl, HBr⟩ := hrel
   have zr := HBr.out.size
   have t8 := cell_later HBr.out t7
   have wj : IntKind.i64.wrap ((j : Int) + 1) = (j : Int) + 1 := IntWalk.i64_in _ (by omega)
   have HBw := hide (HB7.out.trans (HBr.out.mono (by have := HB7.out.size; omega)))
   by_cases hlt : j + 1 < n2
   ·have hli : (j : Int) + 1 < (n2 : Int) := by omega
    have hj0 : (0 : Int) ≤ (j : Int) := by omega
    have hj1 : (j : Int) < (n2 : Int) := by omega
    obtain ⟨bv, hbm, kb⟩ := HN.out j hlt
    have KB := hide kb
    obtain ⟨bT, oT, rfl, hbT, e0, e1, e2⟩ := (RowAt.later HBw.out HR.out).at3 j hj
    have e3 : wr.cell? ⟨bT, oT + j * 3 + 1 + 1, none⟩ = some (.int .i64 (V j)) := e2
    obtain ⟨o0, o1, o2, o3, o4, o5', o6, o7, o8⟩ := CoAt.later HBr.out C7.out
    have KH := hide (fun (h9 : bv = true) W (hb : Below w7.heap.size w7 W) => (laws_hasInt so7 cp7 Lg (j : Int) W (RowAt.later hb H7.out) (by omega)).mono fun e w' (h : e = .returned (.bool (decide ((j : Int) ∈ Lg))) ∧ Below W.heap.size W w') => (show e = .returned (.bool true) ∧ Below W.heap.size W w' from ⟨h.1.trans (by rw [decide_eq_true (hbm h9)]), h.2⟩))
    clear kb hbm
    have zr0 : w1.heap.size < wr.heap.size := World.block_lt_of_cell? _ _ o0
    have zr1 : w1.heap.size + 1 < wr.heap.size := World.block_lt_of_cell? _ _ t8
    go_upto_region 21 with fail
    have hbw := HBw.out
    go_wp2_with fail; (with_reducible refine (KB.out _ bwz).mono ?_); rintro e w8 ⟨rfl, hb8⟩
    have hbr := HBr.out
    have HB8 := hide (show Below w7.heap.size w7 w8 from bstep (Below.alloc hbr (by omega) _) hb8)
    cases bv
    ·go_wp2
     go_roundw
     case rel => exact ⟨j + 1, by omega, by go_num, HB8⟩
     case measure => simp [intOf]; omega
    ·go_wp2_with fail; (with_reducible refine (KH.out (by simp) _ HB8.out).mono ?_); rintro e w9 ⟨rfl, hb9⟩
     have HB9 := hide (bstep HB8.out hb9)
     go_wp2
     go_roundw
     case rel => exact ⟨j + 1, by omega, by go_num, HB9⟩
     case measure => simp [intOf]; omega
   ·have hli : ¬ (j : Int) + 1 < (n2 : Int) := by omega
    go_wp2
    go_ret
    exact ⟨rfl, HB1.out.trans (HBw.out.mono hz1)⟩

set_option maxRecDepth 100000 in
theorem FnZone_lifted (os : Os) (started : os.Started) (H : Type) (enc : TypeId × Value → H) :
 ReturnsInHanded {} Tryz.checked os 3 .any (fun w args => (Rows.fnZoneSpec.pre enc Tryz.prog Tryz.f3 [] false w args ∧ laidMetH Tryz.prog Rows.fnZoneRow.laid w) ∧ sizedMet enc Tryz.prog Tryz.f3 (OpenSpec.ofChange Rows.fnZoneSpec) false w args) (Rows.fnZoneSpec.post enc Tryz.prog Tryz.f3 false true false false) := by
 refine returnsInHanded_of_change_and (C := Tryz.checked) (X := fun w _ => laidMetH Tryz.prog Rows.fnZoneRow.laid w) (fun _ _ _ hh h => h.of_heap hh) Tryz.own started (by as_aux_lemma => kernel_rfl) Tryz.func3
  (ChangeSpec.witness_shaped (enc := enc) (C := Tryz.checked) (os := os) (X := fun w _ => laidMetH Tryz.prog Rows.fnZoneRow.laid w) false (World.laidAll Tryz.prog os Rows.fnZoneRow.laid) #[.slice none 0 0] 8 (World.laidAll_os _ _ _) (World.shaped_of_ZipB (by as_aux_lemma => kernel_rfl) (by as_aux_lemma => kernel_rfl)) (by as_aux_lemma => kernel_rfl) (by as_aux_lemma => kernel_rfl) (by as_aux_lemma => kernel_rfl) (by rw [MakeChecks.laidMetH_plain _ _ _ (by as_aux_lemma => kernel_rfl)]; exact laidMet_laidAll _ (by as_aux_lemma => kernel_rfl) (by as_aux_lemma => kernel_rfl))) ?_
 intro W base args ds gs before hval0 hW _ _ hL _
 have hval : ∀ (j : Nat) t v, Tryz.f3.params[j]? = some t → args[j]? = some v → Value.okWide Tryz.prog W .any base t v := hval0
 have hW' := hW
 obtain ⟨p, q, hA0, hV, rfl, _, _⟩ := hW
 have hA : DataW.TrodAll enc Tryz.prog W 0 (fun _ => true) true Tryz.f3.params.toList args.toList ds p := hA0
 rw [Tryz.params3] at hA hval
 obtain ⟨v0, vs0, d0, ds0, p0, q0, hargs, rfl, rfl, h0, r0⟩ := trodAll_cons hA
 obtain ⟨rfl, rfl, rfl⟩ := trodAll_nil r0
 obtain rfl : args = #[v0] := by cases args; simp_all
 obtain ⟨so0, n0, cp0, B0, rfl, hl0, hr0, hB0⟩ := op_bytes (hval 0 22 v0 rfl rfl) h0
 obtain ⟨rfl, rfl⟩ := trodVars_none hV
 refine (laws_FnZone so0 n0 cp0 B0 W hl0 hr0 hB0).mono fun e W1 ⟨he, hb⟩ => ⟨_, he, ?_⟩
 exact law_post Tryz.laidOut (by as_aux_lemma => kernel_rfl) Tryz.underlying4 rfl rfl hW' rfl rfl rfl hb
set_option maxHeartbeats 8000000 in
theorem FnZone_closed : joinedFacts Tryz.prog 3 Tryz.f3 Rows.fnZoneSpec Rows.fnZoneRow = true := by
 simp only [joinedFacts, Bool.and_eq_true, Tryz.laidOut, Tryz.mapsRowed, Tryz.stopsNone, Tryz.stopKnobsNone, Tryz.plainKeysIs, Tryz.stopsHeardIs, Tryz.mayEnterIs, Tryz.liftsFinalIs, Tryz.makeIs, and_true]
 repeat' (with_reducible refine And.intro ?_ ?_)
 all_goals (as_aux_lemma => kernel_rfl)
set_option maxHeartbeats 8000000 in
/-- FnZone: whatever the input, the law returns true, and the input reads as it did. -/
theorem FnZone_row : Rows.FnZoneSaid :=
 OpenClaim.holds_of_wide 3 Tryz.f3 rfl rfl rfl rfl rfl rfl rfl ⟨rfl, rfl, rfl, rfl, rfl⟩ rfl rfl rfl rfl rfl (by as_aux_lemma => kernel_rfl) Tryz.func3
  FnZone_closed
  (of_decide_eq_true (by as_aux_lemma => kernel_rfl)) (by unfold Func.isWrapper; rw [if_neg (of_decide_eq_false (by as_aux_lemma => kernel_rfl))]; exact ⟨rfl, rfl⟩)
  (fun os started H enc _ => FnZone_lifted os started H enc)

set_option maxHeartbeats 8000000 in
/-- FnZone: the tied card. -/
theorem FnZone_holds : Rows.FnZoneCardSaid :=
 Claim7.holds_tied_plain_at .later [] [.data, .pinned] true (true, "4d1be6c5bc556833807f6a5ed5237b221b01ab357ceb882db2e6d3382263a6a0") false
  FnZone_row (fun _ h => by cases h) (by as_aux_lemma => kernel_rfl) (fun _ h => by cases h) fnZone_row_tie rfl ⟨rfl, rfl⟩ (by as_aux_lemma => kernel_rfl) rfl
  (fun f fn hf hfn => by
   obtain rfl : f = 3 := Option.some.inj ((show Tryz.prog.funcNamed Rows.fnZoneRow.func = some 3 by kernel_rfl).symm.trans hf) |>.symm
   obtain rfl : fn = Tryz.f3 := (Option.some.inj (Tryz.func3.symm.trans hfn)).symm
   exact ⟨by kernel_rfl, fun j t ht => by
    rw [Tryz.params3] at ht
    have hm : t ∈ [22] := by simpa using Array.mem_of_getElem? ht
    have hall : ([22].all fun u => !Tryz.prog.wantsStandIn u) = true := by kernel_rfl
    exact (show Tryz.prog.wantsStandIn t = false by simpa using List.all_eq_true.1 hall t hm)⟩)
  (by as_aux_lemma => kernel_rfl)
#print axioms FnZone_holds
end Go.Proofs.YtklbbopdmnopgaaGreatDoor
