/- FnFirstToZone holds: the boat that is first in a zone has a leg that touches it, and no other boat has one that begins earlier; for every code. What the program's text lays in the library's table is all that the card takes. -/
import Derived.Test.YtgcdgdnmcdffoaaDoorYq
import Derived.Test.YtgcdgdnmcdffoaaDoorPf
import Derived.Test.YtgcdgdnmcdffoaaDoorLh
import Derived.Test.YtgcdgdnmcdffoaaDoorZc
import Derived.Test.YtgcdgdnmcdffoaaDoorMk
import Derived.Test.YtgcdgdnmcdffoaaDoorLaw
import Derived.Test.YtgcdgdnmcdffoaaDoorTie
import Derived.Test.YtgcdgdnmcdffoaaDoorCards
import Derived.Lay
import Derived.LaidMore
import Derived.OpenShut
import Derived.Stop.Joined
import Derived.SevenTiedAt
namespace Go.Proofs.YtgcdgdnmcdffoaaDoor
open Go.ChangeShapes Go.WideShapes Go.ChangeAt Go.RowKit

theorem RetG.ints {w w' : World} {L : List Int} {c : Int} {e : Ending} (h : RetG w L c e w') : ∃ so cp, e = .returned (.tuple #[.slice so L.length cp, .int .i64 c]) ∧ RowAt w' so L.length 1 (vI L) ∧ Below w.heap.size w w' := by
 obtain ⟨so, cp, h1, h2, h3⟩ := h
 exact ⟨so, cp, h1, (OwZ.of h2).read, h3⟩
set_option maxRecDepth 100000 in
set_option maxHeartbeats 8000000 in
theorem laws_FnFirstToZone (so : Option Addr) (n cap : Nat) (B : Nat → Int) (w : World) (hl : n ≤ maxLen) (h : RowAt w so n 1 (vb B)) (hB : ∀ i, 0 ≤ B i ∧ B i ≤ 255) :
 Calls Tryd.prog 4 #[.slice so n cap] w fun e w' => e = .returned (.bool true) ∧ Below w.heap.size w w' := by
 unfold maxLen at hl
 by_cases hn : 4096 < n
 ·have Hd := hide (decide_eq_true hn)
  go_enter Tryd.func4, Tryd.ntmps4
  go_wp2_with (go_at_call 5; (with_reducible refine (laws_big _ _ _ _ (by omega)).mono ?_); rintro e w9 ⟨rfl, rfl⟩; rw [Hd.out])
  go_ret
  exact ⟨rfl, bwz⟩
 have Hd := hide (decide_eq_false hn)
 go_enter Tryd.func4, Tryd.ntmps4
 go_wp2_with fail; (with_reducible refine (laws_big _ _ _ _ (by omega)).mono ?_); rintro e w0 ⟨rfl, rfl⟩; rw [Hd.out]
 go_wp2_with fail; (with_reducible refine (spec_DrawFirstToZone so n cap B _ h hB (by omega)).mono ?_); rintro e w1 ⟨⟨ax, ay, bx, bY, cx, cy, dx, dy, cs, m, mcap, N, X, Y, S, Z, k, so2, n2, cap2, A, nn, C, T, U, V, rfl, hm, hmc, hn2, hnn, hc, hr⟩, hb1⟩; have hz1 := hb1.size
 have HC := hide hc
 have HR := hide hr
 have HB1 := hide hb1
 clear hc hr hb1 hB h Hd
 have KI := hide (fun W (hb : Below w1.heap.size w1 W) => impl_FirstToZone ax ay bx bY cx cy dx dy cs m mcap N X Y S Z k so2 n2 cap2 A nn C T U V W (RowAt.later hb HC.out) (by omega) hmc (Trs.later hb HR.out) (by omega) (fun i hi => by have := hnn i hi; omega))
 have KS := hide (fun W (hb : Below w1.heap.size w1 W) => spec_FirstToZone ax ay bx bY cx cy dx dy cs m mcap N X Y S Z k so2 n2 cap2 A nn C T U V W (RowAt.later hb HC.out) (by omega) (Trs.later hb HR.out) (by omega) (fun i hi => by have := hnn i hi; omega))
 obtain ⟨d9, hd9⟩ : ∃ x, x = (ftR (isCo ax ay bx bY cx cy dx dy m N X Y S Z) (allTr nn T U V n2) m n2 k (ftP (X k.toNat) (Y k.toNat) (Z k.toNat) nn T U V n2).1).1 := ⟨_, rfl⟩
 obtain ⟨c9, hc9⟩ : ∃ x, x = (ftR (isCo ax ay bx bY cx cy dx dy m N X Y S Z) (allTr nn T U V n2) m n2 k (ftP (X k.toNat) (Y k.toNat) (Z k.toNat) nn T U V n2).1).2 := ⟨_, rfl⟩
 rw [← hd9, ← hc9] at KI KS
 by_cases hz : c9 = 0
 case neg =>
  have d1 : (c9 != 0) = true := bne_iff_ne.2 hz
  clear hd9 hc9
  go_wp2_with fail; (with_reducible refine (KI.out _ bwz).mono ?_); rintro e w2 ⟨rfl, hbw2⟩; obtain ⟨hcw2, hfw2⟩ := bcell hbw2; have hzw2 := hbw2.size; have zzw20 : w1.heap.size < w2.heap.size := (by first | omega | (simp at hzw2; omega))
  go_wp2_with fail; (with_reducible refine (KS.out _ bwz).mono ?_); rintro e w3 ⟨rfl, hbw3⟩; obtain ⟨hcw3, hfw3⟩ := bcell hbw3; have hzw3 := hbw3.size; have zzw30 : w1.heap.size < w3.heap.size := (by first | omega | (simp at hzw3; omega))
  have hb1 := HB1.out
  go_wp2
  go_ret
  exact ⟨rfl, bwz⟩
 subst hz
 obtain ⟨h16, z, hb0, e9⟩ := ftR_zero hc9.symm
 rw [e9] at hd9
 obtain ⟨v1, v2, k0, k1⟩ := zo_tt z
 obtain ⟨K, rfl⟩ : ∃ K : Nat, k = (K : Int) := ⟨k.toNat, by omega⟩
 rw [Int.toNat_natCast] at hd9 hb0
 have hFP := ftP_first (X K) (Y K) (Z K) nn T U V n2
 obtain ⟨bi, b1, b2', b3, b4, b5⟩ := hFP.resolve_left (fun h => by omega)
 obtain rfl : d9 = (bi : Int) := by omega
 have htr : ∀ i, i < n2 → isTr (nn i) (T i) (U i) (V i) = true := fun i hi => allTr_at hi v2
 have hzi : ∀ i, i < n2 → zoC (isCo ax ay bx bY cx cy dx dy m N X Y S Z) (isTr (nn i) (T i) (U i) (V i)) m (K : Int) = 0 := fun i hi => by rw [htr i hi, ← v2]; exact z
 have hlg : ∀ i, i < n2 → lgL (isCo ax ay bx bY cx cy dx dy m N X Y S Z) (isTr (nn i) (T i) (U i) (V i)) m (K : Int) (nn i) (U i) (V i) X Y Z = (lgsZ (X K) (Y K) (Z K) (U i) (V i) (nn i - 1)) := fun i hi => by unfold lgL; rw [if_pos (hzi i hi), Int.toNat_natCast]
 have KG := hide (fun i (hi : i < n2) W (hb : Below w1.heap.size w1 W) => (show Calls Tryd.prog 10 #[.agg #[.int .i64 ax, .int .i64 ay, .int .i64 bx, .int .i64 bY, .int .i64 cx, .int .i64 cy, .int .i64 dx, .int .i64 dy, .slice cs m mcap], .int .i64 (K : Int), .agg #[.slice (A i) (nn i) (C i)]] W (RetG W (lgsZ (X K) (Y K) (Z K) (U i) (V i) (nn i - 1)) 0) from by
  have h9 := impl_LegsInZone ax ay bx bY cx cy dx dy cs m mcap N X Y S Z (K : Int) (A i) (nn i) (C i) (T i) (U i) (V i) W (RowAt.later hb HC.out) (by omega) hmc (RowAt.later hb (HR.out.2 i hi)) (by have := hnn i hi; omega)
  rw [hlg i hi, hzi i hi] at h9
  exact h9))
 have SG := hide (fun i (hi : i < n2) W (hb : Below w1.heap.size w1 W) => (show Calls Tryd.prog 15 #[.agg #[.int .i64 ax, .int .i64 ay, .int .i64 bx, .int .i64 bY, .int .i64 cx, .int .i64 cy, .int .i64 dx, .int .i64 dy, .slice cs m mcap], .int .i64 (K : Int), .agg #[.slice (A i) (nn i) (C i)]] W (RetG W (lgsZ (X K) (Y K) (Z K) (U i) (V i) (nn i - 1)) 0) from by
  have h9 := spec_LegsInZone ax ay bx bY cx cy dx dy cs m mcap N X Y S Z (K : Int) (A i) (nn i) (C i) (T i) (U i) (V i) W (RowAt.later hb HC.out) (by omega) (RowAt.later hb (HR.out.2 i hi)) (by have := hnn i hi; omega)
  rw [hlg i hi, hzi i hi] at h9
  exact h9))
 have hll := fun i => lgsZ_len (X K) (Y K) (Z K) (U i) (V i) (nn i - 1)
 obtain ⟨p0, p1, p2, p3, p4, p5⟩ := (hd_cases (x := X K) (y := Y K) (z := Z K) (htr bi b1)).resolve_left (fun h => by omega)
 have HP := hide (show ∀ i, i < n2 → (lgsZ (X K) (Y K) (Z K) (U i) (V i) (nn i - 1)).length = 0 ∨ ∃ p : Nat, p + 1 < nn i ∧ 0 < (lgsZ (X K) (Y K) (Z K) (U i) (V i) (nn i - 1)).length ∧ (lgsZ (X K) (Y K) (Z K) (U i) (V i) (nn i - 1))[0]?.getD 0 = (p : Int) ∧ T bi p0 ≤ T i p from fun i hi => by
  rcases hd_cases (x := X K) (y := Y K) (z := Z K) (htr i hi) with ⟨q1, q2⟩ | ⟨p, q1, q2, q3, q4, q5⟩
  ·exact .inl (by rw [q1]; rfl)
  ·refine .inr ⟨p, q1, q2, q3, ?_⟩
   rcases b5 i hi with h9 | h9 <;> omega)
 have HLL := hide (show ∀ i, i < n2 → (lgsZ (X K) (Y K) (Z K) (U i) (V i) (nn i - 1)).length ≤ 41 from fun i hi => by have := hll i; have := hnn i hi; omega)
 obtain ⟨Lf, hLf⟩ : ∃ f : Nat → List Int, f = fun i => (lgsZ (X K) (Y K) (Z K) (U i) (V i) (nn i - 1)) := ⟨_, rfl⟩
 have KG := hide (show ∀ i, i < n2 → ∀ W, Below w1.heap.size w1 W → Calls Tryd.prog 10 #[.agg #[.int .i64 ax, .int .i64 ay, .int .i64 bx, .int .i64 bY, .int .i64 cx, .int .i64 cy, .int .i64 dx, .int .i64 dy, .slice cs m mcap], .int .i64 (K : Int), .agg #[.slice (A i) (nn i) (C i)]] W (RetG W (Lf i) 0) by rw [hLf]; exact KG.out)
 have SG := hide (show ∀ i, i < n2 → ∀ W, Below w1.heap.size w1 W → Calls Tryd.prog 15 #[.agg #[.int .i64 ax, .int .i64 ay, .int .i64 bx, .int .i64 bY, .int .i64 cx, .int .i64 cy, .int .i64 dx, .int .i64 dy, .slice cs m mcap], .int .i64 (K : Int), .agg #[.slice (A i) (nn i) (C i)]] W (RetG W (Lf i) 0) by rw [hLf]; exact SG.out)
 have HP := hide (show ∀ i, i < n2 → (Lf i).length = 0 ∨ ∃ p : Nat, p + 1 < nn i ∧ 0 < (Lf i).length ∧ (Lf i)[0]?.getD 0 = (p : Int) ∧ T bi p0 ≤ T i p by rw [hLf]; exact HP.out)
 have HLL := hide (show ∀ i, i < n2 → (Lf i).length ≤ 41 by rw [hLf]; exact HLL.out)
 have p2 : 0 < (Lf bi).length := by rw [hLf]; exact p2
 have p3 : (Lf bi)[0]?.getD 0 = (p0 : Int) := by rw [hLf]; exact p3
 have HNN := hide hnn
 clear hLf hll htr hzi hlg hFP b2' b3 b4 b5 p4 p5 v1 v2 z hd9 hc9 e9 k0 k1 h16 hb0 hnn
 obtain ⟨bs, os, rfl, hbs, hcb⟩ := HR.out.at bi b1
 have hi1 : (0 : Int) ≤ (bi : Int) := by omega
 have hi2 : (bi : Int) < (n2 : Int) := by omega
 obtain ⟨ba, oa, hba, hbal, cT, _, _⟩ := (HR.out.2 bi b1).at3 p0 (by omega)
 obtain ⟨nb, hnb⟩ : ∃ x, x = nn bi := ⟨_, rfl⟩
 obtain ⟨t9, ht9⟩ : ∃ x, x = T bi p0 := ⟨_, rfl⟩
 obtain ⟨cb, hcb9⟩ : ∃ x, x = C bi := ⟨_, rfl⟩
 have K1 := hide (KG.out bi b1)
 have K2 := hide (SG.out bi b1)
 have hlb := HLL.out bi b1
 rw [hba, ← hnb, ← hcb9] at K1 K2 hcb
 rw [← ht9] at cT HP
 rw [← hnb] at p1
 clear hnb ht9 hcb9
 generalize Lf bi = Lb at *
 go_wp2_with fail; (with_reducible refine (KI.out _ bwz).mono ?_); rintro e w2 ⟨rfl, hbw2⟩; obtain ⟨hcw2, hfw2⟩ := bcell hbw2; have hzw2 := hbw2.size; have zzw20 : w1.heap.size < w2.heap.size := (by first | omega | (simp at hzw2; omega))
 go_wp2_with fail; (with_reducible refine (KS.out _ bwz).mono ?_); rintro e w3 ⟨rfl, hbw3⟩; obtain ⟨hcw3, hfw3⟩ := bcell hbw3; have hzw3 := hbw3.size; have zzw30 : w1.heap.size < w3.heap.size := (by first | omega | (simp at hzw3; omega))
 have C0 := hide (show CoAt w3 w1.heap.size ax ay bx bY cx cy dx dy cs m mcap from ⟨by go_simp, by go_simp, by go_simp, by go_simp, by go_simp, by go_simp, by go_simp, by go_simp, by go_simp⟩)
 have HB3 := hide (show Below w1.heap.size w1 w3 from bwz)
 have z3 := HB3.out.size
 have ct3 := cell_later HB3.out hcb
 have cT3 := cell_later HB3.out cT
 clear hcw2 hfw2 hbw2 hzw2 hcw3 hfw3 hbw3 hzw3 KI KS hcb cT
 obtain ⟨o0, o1, o2, o3, o4, o5', o6, o7, o8⟩ := C0.out
 have zgc : w1.heap.size < w3.heap.size := World.block_lt_of_cell? _ _ o0
 have zgs : bs < w3.heap.size := World.block_lt_of_cell? _ _ ct3
 go_upto_region 10 with fail
 refine wp_region_held_drew (S := fun W => Below w3.heap.size w3 W) (by kernel_rfl) (Below.drew (Below.refl _ _)) (fun hHeld => ?_)
 refine tkL 0 (some 51) rfl ?_; simp only [pz]
 refine tkN 1 (some 52) rfl ?_; simp only [pz]
 refine tkN 2 (some 53) rfl ?_; simp only [pz]
 refine tkN 3 (some 54) rfl ?_; simp only [pz]
 refine tkN 4 (some 55) rfl ?_; simp only [pz]
 refine tkL 5 (some 56) rfl ?_; simp only [pz]
 refine rd1 6 (some 57) rfl (fun K hK => ?_)
 go_simp; (go_at_call 10; (with_reducible refine (K1.out _ (bstep HB3.out hHeld)).mono ?_); rintro e w9 hret; obtain ⟨so6, cp6, rfl, ho6, hb⟩ := hret.ints; have HO6 := hide ho6; clear ho6 hret)
 all_goals (try go_wp2_with fail)
 refine hK.out _ _ ?_ (fun hH2 => ?_)
 ·exact hhz
 clear hK K hHeld; (have hHeld := hH2); clear hH2; (try simp only [pz])
 refine tkN 7 (some 50) rfl ?_; simp only [pz]
 refine tkN 8 (some 58) rfl ?_; simp only [pz]
 refine tkN 9 (some 59) rfl ?_; simp only [pz]
 refine tkN 10 (some 10) rfl ?_; simp only [pz]
 refine tkN 11 (some 11) rfl ?_; simp only [pz]
 refine wpAnyH_done (by kernel_rfl) ?_ _; (try simp only [pz])
 obtain ⟨w4, rfl⟩ : ∃ x : World, x = w9 := ⟨_, rfl⟩
 have HB4 := hide (bstep HB3.out hHeld)
 have C4 := hide (CoAt.later hHeld C0.out)
 have ct4 := cell_later hHeld ct3
 have cT4 := cell_later hHeld cT3
 clear o0 o1 o2 o3 o4 o5' o6 o7 o8 zgc zgs C0 HB3 ct3 cT3 K1 hHeld
 obtain ⟨o0, o1, o2, o3, o4, o5', o6, o7, o8⟩ := C4.out
 have zgc : w1.heap.size < w4.heap.size := World.block_lt_of_cell? _ _ o0
 have zgs : bs < w4.heap.size := World.block_lt_of_cell? _ _ ct4
 go_upto_region 11 with fail
 refine wp_region_held_drew (S := fun W => Below w4.heap.size w4 W) (by kernel_rfl) (Below.drew (Below.refl _ _)) (fun hHeld => ?_)
 refine tkL 0 (some 61) rfl ?_; simp only [pz]
 refine tkN 1 (some 62) rfl ?_; simp only [pz]
 refine tkN 2 (some 63) rfl ?_; simp only [pz]
 refine tkN 3 (some 64) rfl ?_; simp only [pz]
 refine tkN 4 (some 65) rfl ?_; simp only [pz]
 refine tkL 5 (some 66) rfl ?_; simp only [pz]
 refine rd1 6 (some 67) rfl (fun K hK => ?_)
 go_simp; (go_at_call 15; (with_reducible refine (K2.out _ (bstep HB4.out hHeld)).mono ?_); rintro e w9 hret; obtain ⟨so7, cp7, rfl, ho7, hb⟩ := hret.ints; have HO7 := hide ho7; clear ho7 hret)
 all_goals (try go_wp2_with fail)
 refine hK.out _ _ ?_ (fun hH2 => ?_)
 ·exact hhz
 clear hK K hHeld; (have hHeld := hH2); clear hH2; (try simp only [pz])
 refine tkN 7 (some 60) rfl ?_; simp only [pz]
 refine tkN 8 (some 68) rfl ?_; simp only [pz]
 refine tkN 9 (some 69) rfl ?_; simp only [pz]
 refine tkN 10 (some 12) rfl ?_; simp only [pz]
 refine tkN 11 (some 13) rfl ?_; simp only [pz]
 refine wpAnyH_done (by kernel_rfl) ?_ _; (try simp only [pz])
 obtain ⟨w5, rfl⟩ : ∃ x : World, x = w9 := ⟨_, rfl⟩
 have HB5 := hide (bstep HB4.out hHeld)
 have C5 := hide (CoAt.later hHeld C4.out)
 have ct5 := cell_later hHeld ct4
 have cT5 := cell_later hHeld cT4
 have KL := hide (laws_likeInts so6 so7 Lb.length cp6 cp7 _ w5 (RowAt.v1k (RowAt.later hHeld HO6.out)) (RowAt.v1k HO7.out) (by omega))
 obtain ⟨b7, o7, rfl, hb7, e7⟩ := RowAt.at1 HO7.out 0 p2
 have hv7 : vI Lb 0 0 = .int .i64 (p0 : Int) := by unfold vI; rw [p3]
 rw [hv7, Nat.add_zero] at e7
 clear o0 o1 o2 o3 o4 o5' o6 o8 zgc zgs C4 HB4 ct4 cT4 K2 hHeld hv7 HO6 HO7
 have d0 : ((Lb.length : Int) == 0) = false := beq_eq_false_iff_ne.2 (by omega)
 go_wp2_with fail; (with_reducible refine (KL.out).mono ?_); rintro e w6 ⟨rfl, hb6⟩
 have HB6 := hide (bstep HB5.out hb6)
 have C6 := hide (CoAt.later hb6 C5.out)
 have ct6 := cell_later hb6 ct5
 have cT6 := cell_later hb6 cT5
 have e76 := cell_later hb6 e7
 have zgs : bs < w6.heap.size := World.block_lt_of_cell? _ _ ct6
 have zgt : ba < w6.heap.size := World.block_lt_of_cell? _ _ cT6
 have zg7 : b7 < w6.heap.size := World.block_lt_of_cell? _ _ e76
 have hp0 : (0 : Int) ≤ (p0 : Int) := by omega
 have hp1 : (p0 : Int) < (nb : Int) := by omega
 have hl2 : (0 : Int) < (Lb.length : Int) := by omega
 clear C5 HB5 ct5 cT5 e7 KL hb6
 go_upto_region 14 with fail
 refine wp_region_held_drew (S := fun W => Below w6.heap.size w6 W) (by kernel_rfl) (Below.drew (Below.refl _ _)) (fun hHeld => ?_)
 refine tkN 0 (some 83) rfl ?_; simp only [pz]
 refine tkN 1 (some 84) rfl ?_; simp only [pz]
 refine tkN 2 (some 85) rfl ?_; simp only [pz]
 refine tkN 3 (some 86) rfl ?_; simp only [pz]
 refine tkL 4 (some 87) rfl ?_; simp only [pz]
 refine tkN 5 (some 88) rfl ?_; simp only [pz]
 refine tkN 6 (some 89) rfl ?_; simp only [pz]
 refine tkL 7 (some 90) rfl ?_; simp only [pz]
 refine tkN 8 (some 91) rfl ?_; simp only [pz]
 refine tkN 9 (some 92) rfl ?_; simp only [pz]
 refine tkL 10 (some 93) rfl ?_; simp only [pz]
 refine tkN 11 (some 14) rfl ?_; simp only [pz]
 refine wpAnyH_done (by kernel_rfl) ?_ _; (try simp only [pz])
 obtain ⟨w7, hw7⟩ : ∃ W, W = w6.drew := ⟨_, rfl⟩
 rw [← hw7] at hHeld ⊢
 have HB7 := hide (bstep HB6.out hHeld)
 have C7 := hide (CoAt.later hHeld C6.out)
 clear hw7 hHeld HB6 C6 ct6 cT6 e76 zgs zgt zg7 hp0 hp1 hl2 d0
 have HTt := hide (show ∀ i, i < n2 → w7.cell? ⟨bs, os + i, none⟩ = some (.slice (A i) (nn i) (C i)) from fun i hi => by
  obtain ⟨bs', os', e', _, h9⟩ := HR.out.at i hi
  injection e' with e'
  injection e' with e1' e2'
  subst e1'
  subst e2'
  exact cell_later HB7.out h9)
 go_wp2
 go_loopw [15] (fun i wr => ∃ j : Nat, j ≤ n2 ∧ i = .int .i64 (j : Int) ∧ Hid (Below w7.heap.size w7 wr)) (fun i _ => n2 - (intOf i).toNat)
 case atStart => exact ⟨0, Nat.zero_le _, rfl, hide (Below.refl _ _)⟩
 case round =>
  obtain ⟨j, hj, rfl, HBr⟩ := hrel
  have zr := HBr.out.size
  have HBw := hide (HB7.out.trans (HBr.out.mono (by have := HB7.out.size; omega)))
  by_cases hlt : j < n2
  ·have hj0 : (0 : Int) ≤ (j : Int) := by omega
   have hj1 : (j : Int) < (n2 : Int) := by omega
   have ct := cell_later HBr.out (HTt.out j hlt)
   obtain ⟨o0, o1, o2, o3, o4, o5', o6, o7', o8⟩ := CoAt.later HBr.out C7.out
   have zgc : w1.heap.size < wr.heap.size := World.block_lt_of_cell? _ _ o0
   have zgs : bs < wr.heap.size := World.block_lt_of_cell? _ _ ct
   have KJ := hide (SG.out j hlt)
   go_upto_region 18 with fail
   refine wp_region_held_drew (S := fun W => Below wr.heap.size wr W) (by kernel_rfl) (Below.drew (Below.refl _ _)) (fun hHeld => ?_)
   refine tkL 0 (some 101) rfl ?_; simp only [pz]
   refine tkN 1 (some 102) rfl ?_; simp only [pz]
   refine tkN 2 (some 103) rfl ?_; simp only [pz]
   refine tkN 3 (some 104) rfl ?_; simp only [pz]
   refine tkN 4 (some 105) rfl ?_; simp only [pz]
   refine tkL 5 (some 106) rfl ?_; simp only [pz]
   refine rd1 6 (some 107) rfl (fun K hK => ?_)
   go_simp; (go_at_call 15; (with_reducible refine (KJ.out _ (bstep HBw.out hHeld)).mono ?_); rintro e w9 hret; obtain ⟨so8, cp8, rfl, ho8, hb⟩ := hret.ints; have HO8 := hide ho8; clear ho8 hret)
   all_goals (try go_wp2_with fail)
   refine hK.out _ _ ?_ (fun hH2 => ?_)
   ·exact hhz
   clear hK K hHeld; (have hHeld := hH2); clear hH2; (try simp only [pz])
   refine tkN 7 (some 100) rfl ?_; simp only [pz]
   refine tkN 8 (some 108) rfl ?_; simp only [pz]
   refine tkN 9 (some 109) rfl ?_; simp only [pz]
   refine tkN 10 (some 16) rfl ?_; simp only [pz]
   refine tkN 11 (some 17) rfl ?_; simp only [pz]
   refine wpAnyH_done (by kernel_rfl) ?_ _; (try simp only [pz])
   obtain ⟨wq, rfl⟩ : ∃ x : World, x = w9 := ⟨_, rfl⟩
   have HBq := hide (bstep HBr.out hHeld)
   have zq := HBq.out.size
   clear o0 o1 o2 o3 o4 o5' o6 o7' o8 zgc zgs ct KJ hHeld
   have ct := cell_later HBq.out (HTt.out j hlt)
   have HPj := HP.out j hlt
   have hLj := HLL.out j hlt
   obtain ⟨Lj, hLj9⟩ : ∃ L, L = Lf j := ⟨_, rfl⟩
   rw [← hLj9] at HO8 HPj hLj ⊢
   clear hLj9
   go_upto_region 19 with fail
   go_cut [131] (fun s W => s = .bool false ∧ Hid (Below w7.heap.size w7 W))
   case first =>
    rcases HPj with h0 | ⟨p, q1, q2, q3, q4⟩
    ·have hl0 : ¬ 0 < Lj.length := by omega
     have zgs : bs < wq.heap.size := World.block_lt_of_cell? _ _ ct
     clear h0
     refine wp_region_held_drew (S := fun W => Below wq.heap.size wq W) (by kernel_rfl) (Below.drew (Below.refl _ _)) (fun hHeld => ?_)
     refine tkN 0 (some 110) rfl ?_; simp only [pz]
     refine tkN 1 (some 111) rfl ?_; simp only [pz]
     refine tkN 2 (some 112) rfl ?_; simp only [pz]
     refine tkN 3 (some 113) rfl ?_; simp only [pz]
     refine tkN 4 (some 114) rfl ?_; simp only [pz]
     refine tkN 5 (some 115) rfl ?_; simp only [pz]
     refine tkN 6 (some 116) rfl ?_; simp only [pz]
     refine tkO 7 (some 117) rfl ?_; simp only [pz]
     refine tkO 8 (some 118) rfl ?_; simp only [pz]
     refine tkO 9 (some 119) rfl ?_; simp only [pz]
     refine tkO 10 (some 120) rfl ?_; simp only [pz]
     refine tkO 11 (some 121) rfl ?_; simp only [pz]
     refine tkO 12 (some 122) rfl ?_; simp only [pz]
     refine tkO 13 (some 123) rfl ?_; simp only [pz]
     refine tkO 14 (some 124) rfl ?_; simp only [pz]
     refine tkO 15 (some 125) rfl ?_; simp only [pz]
     refine tkO 16 (some 126) rfl ?_; simp only [pz]
     refine tkO 17 (some 127) rfl ?_; simp only [pz]
     refine tkO 18 (some 128) rfl ?_; simp only [pz]
     refine tkO 19 (some 129) rfl ?_; simp only [pz]
     refine tkN 20 (some 130) rfl ?_; simp only [pz]
     refine tkN 21 (some 131) rfl ?_; simp only [pz]
     refine wpAnyH_done (by kernel_rfl) ?_ _; (try simp only [pz])
     go_wp2_with fail
     go_meet
     exact ⟨rfl, hide (HBq.out.trans (hHeld.mono zq))⟩
    ·have hl0 : 0 < Lj.length := q2
     have hl1 : (0 : Int) < (Lj.length : Int) := by omega
     obtain ⟨b8, o8, rfl, hb8, e8⟩ := RowAt.at1 HO8.out 0 q2
     have hv8 : vI Lj 0 0 = .int .i64 (p : Int) := by unfold vI; rw [q3]
     rw [hv8, Nat.add_zero] at e8
     obtain ⟨bt, ot, hbt, hbtl, cTj, _, _⟩ := (HR.out.2 j hlt).at3 p (by omega)
     rw [hbt] at ct
     have cTq := cell_later (HBw.out.trans (Below.refl _ _)) cTj
     have cTj2 := cell_later (HB7.out.trans (HBq.out.mono (by have := HB7.out.size; omega))) cTj
     obtain ⟨tj, htj⟩ : ∃ x, x = T j p := ⟨_, rfl⟩
     rw [← htj] at cTj2 q4
     have hp0 : (0 : Int) ≤ (p : Int) := by omega
     have hp1 : (p : Int) < (nn j : Int) := by omega
     have hn4 : ¬ tj < t9 := by omega
     have zgs : bs < wq.heap.size := World.block_lt_of_cell? _ _ ct
     have zgt : bt < wq.heap.size := World.block_lt_of_cell? _ _ cTj2
     clear hv8 q3 cTj cTq htj q4 hbt
     refine wp_region_held_drew (S := fun W => Below wq.heap.size wq W) (by kernel_rfl) (Below.drew (Below.refl _ _)) (fun hHeld => ?_)
     refine tkN 0 (some 110) rfl ?_; simp only [pz]
     refine tkN 1 (some 111) rfl ?_; simp only [pz]
     refine tkN 2 (some 112) rfl ?_; simp only [pz]
     refine tkN 3 (some 113) rfl ?_; simp only [pz]
     refine tkN 4 (some 114) rfl ?_; simp only [pz]
     refine tkN 5 (some 115) rfl ?_; simp only [pz]
     refine tkN 6 (some 116) rfl ?_; simp only [pz]
     refine tkN 7 (some 117) rfl ?_; simp only [pz]
     refine tkN 8 (some 118) rfl ?_; simp only [pz]
     refine tkN 9 (some 119) rfl ?_; simp only [pz]
     refine tkN 10 (some 120) rfl ?_; simp only [pz]
     refine tkL 11 (some 121) rfl ?_; simp only [pz]
     refine tkN 12 (some 122) rfl ?_; simp only [pz]
     refine tkN 13 (some 123) rfl ?_; simp only [pz]
     refine tkL 14 (some 124) rfl ?_; simp only [pz]
     refine tkN 15 (some 125) rfl ?_; simp only [pz]
     refine tkN 16 (some 126) rfl ?_; simp only [pz]
     refine tkL 17 (some 127) rfl ?_; simp only [pz]
     refine tkN 18 (some 128) rfl ?_; simp only [pz]
     refine tkN 19 (some 129) rfl ?_; simp only [pz]
     refine tkN 20 (some 130) rfl ?_; simp only [pz]
     refine tkN 21 (some 131) rfl ?_; simp only [pz]
     refine wpAnyH_done (by kernel_rfl) ?_ _; (try simp only [pz])
     go_wp2_with fail
     go_meet
     exact ⟨rfl, hide (HBq.out.trans (hHeld.mono zq))⟩
   case rest =>
    obtain ⟨rfl, HBc⟩ := hcut
    clear ct HPj HO8 HBq
    go_wp2
    go_roundw
    case rel => exact ⟨j + 1, by omega, by go_num, HBc⟩
    case measure => simp [intOf]; omega
  ·have hje : ¬ (j : Int) < (n2 : Int) := by omega
   go_wp2
   go_ret
   exact ⟨rfl, HB1.out.trans (HBw.out.mono hz1)⟩

set_option maxRecDepth 100000 in
theorem FnFirstToZone_lifted (os : Os) (started : os.Started) (H : Type) (enc : TypeId × Value → H) :
 ReturnsInHanded {} Tryd.checked os 4 .any (fun w args => (Rows.fnFirstToZoneSpec.pre enc Tryd.prog Tryd.f4 [] false w args ∧ laidMetH Tryd.prog Rows.fnFirstToZoneRow.laid w) ∧ sizedMet enc Tryd.prog Tryd.f4 (OpenSpec.ofChange Rows.fnFirstToZoneSpec) false w args) (Rows.fnFirstToZoneSpec.post enc Tryd.prog Tryd.f4 false true false false) := by
 refine returnsInHanded_of_change_and (C := Tryd.checked) (X := fun w _ => laidMetH Tryd.prog Rows.fnFirstToZoneRow.laid w) (fun _ _ _ hh h => h.of_heap hh) Tryd.own started (by as_aux_lemma => kernel_rfl) Tryd.func4
  (ChangeSpec.witness_shaped (enc := enc) (C := Tryd.checked) (os := os) (X := fun w _ => laidMetH Tryd.prog Rows.fnFirstToZoneRow.laid w) false (World.laidAll Tryd.prog os Rows.fnFirstToZoneRow.laid) #[.slice none 0 0] 8 (World.laidAll_os _ _ _) (World.shaped_of_ZipB (by as_aux_lemma => kernel_rfl) (by as_aux_lemma => kernel_rfl)) (by as_aux_lemma => kernel_rfl) (by as_aux_lemma => kernel_rfl) (by as_aux_lemma => kernel_rfl) (by rw [MakeChecks.laidMetH_plain _ _ _ (by as_aux_lemma => kernel_rfl)]; exact laidMet_laidAll _ (by as_aux_lemma => kernel_rfl) (by as_aux_lemma => kernel_rfl))) ?_
 intro W base args ds gs before hval0 hW _ _ hL _
 have hval : ∀ (j : Nat) t v, Tryd.f4.params[j]? = some t → args[j]? = some v → Value.okWide Tryd.prog W .any base t v := hval0
 have hW' := hW
 obtain ⟨p, q, hA0, hV, rfl, _, _⟩ := hW
 have hA : DataW.TrodAll enc Tryd.prog W 0 (fun _ => true) true Tryd.f4.params.toList args.toList ds p := hA0
 rw [Tryd.params4] at hA hval
 obtain ⟨v0, vs0, d0, ds0, p0, q0, hargs, rfl, rfl, h0, r0⟩ := trodAll_cons hA
 obtain ⟨rfl, rfl, rfl⟩ := trodAll_nil r0
 obtain rfl : args = #[v0] := by cases args; simp_all
 obtain ⟨so0, n0, cp0, B0, rfl, hl0, hr0, hB0⟩ := op_bytes (hval 0 22 v0 rfl rfl) h0
 obtain ⟨rfl, rfl⟩ := trodVars_none hV
 refine (laws_FnFirstToZone so0 n0 cp0 B0 W hl0 hr0 hB0).mono fun e W1 ⟨he, hb⟩ => ⟨_, he, ?_⟩
 exact law_post Tryd.laidOut (by as_aux_lemma => kernel_rfl) Tryd.underlying4 rfl rfl hW' rfl rfl rfl hb
set_option maxHeartbeats 8000000 in
theorem FnFirstToZone_closed : joinedFacts Tryd.prog 4 Tryd.f4 Rows.fnFirstToZoneSpec Rows.fnFirstToZoneRow = true := by
 simp only [joinedFacts, Bool.and_eq_true, Tryd.laidOut, Tryd.mapsRowed, Tryd.stopsNone, Tryd.stopKnobsNone, Tryd.plainKeysIs, Tryd.stopsHeardIs, Tryd.mayEnterIs, Tryd.liftsFinalIs, Tryd.makeIs, and_true]
 repeat' (with_reducible refine And.intro ?_ ?_)
 all_goals (as_aux_lemma => kernel_rfl)
set_option maxHeartbeats 8000000 in
/-- FnFirstToZone: whatever the input, the law returns true, and the input reads as it did. -/
theorem FnFirstToZone_row : Rows.FnFirstToZoneSaid :=
 OpenClaim.holds_of_wide 4 Tryd.f4 rfl rfl rfl rfl rfl rfl rfl ⟨rfl, rfl, rfl, rfl, rfl⟩ rfl rfl rfl rfl rfl (by as_aux_lemma => kernel_rfl) Tryd.func4
  FnFirstToZone_closed
  (of_decide_eq_true (by as_aux_lemma => kernel_rfl)) (by unfold Func.isWrapper; rw [if_neg (of_decide_eq_false (by as_aux_lemma => kernel_rfl))]; exact ⟨rfl, rfl⟩)
  (fun os started H enc _ => FnFirstToZone_lifted os started H enc)

set_option maxHeartbeats 8000000 in
/-- FnFirstToZone: the tied card. -/
theorem FnFirstToZone_holds : Rows.FnFirstToZoneCardSaid :=
 Claim7.holds_tied_plain_at .later [] [.data, .pinned] true (true, "a474a57ef87f4e7ea7ebc13e416415b00c3e81731f1ca5f477a84b0ab1c79253") false
  FnFirstToZone_row (fun _ h => by cases h) (by as_aux_lemma => kernel_rfl) (fun _ h => by cases h) fnFirstToZone_row_tie rfl ⟨rfl, rfl⟩ (by as_aux_lemma => kernel_rfl) rfl
  (fun f fn hf hfn => by
   obtain rfl : f = 4 := Option.some.inj ((show Tryd.prog.funcNamed Rows.fnFirstToZoneRow.func = some 4 by kernel_rfl).symm.trans hf) |>.symm
   obtain rfl : fn = Tryd.f4 := (Option.some.inj (Tryd.func4.symm.trans hfn)).symm
   exact ⟨by kernel_rfl, fun j t ht => by
    rw [Tryd.params4] at ht
    have hm : t ∈ [22] := by simpa using Array.mem_of_getElem? ht
    have hall : ([22].all fun u => !Tryd.prog.wantsStandIn u) = true := by kernel_rfl
    exact (show Tryd.prog.wantsStandIn t = false by simpa using List.all_eq_true.1 hall t hm)⟩)
  (by as_aux_lemma => kernel_rfl)
#print axioms FnFirstToZone_holds
end Go.Proofs.YtgcdgdnmcdffoaaDoor
