/- FnVisits holds: the visits of a zone consist of all legs that touch it, and are separated by others; for every code. What the program's text lays in the library's table is all that the card takes. -/
import Derived.Test.YtgcdgdnmcdffoaaDoorYk
import Derived.Test.YtgcdgdnmcdffoaaDoorPv
import Derived.Test.YtgcdgdnmcdffoaaDoorZv
import Derived.Test.YtgcdgdnmcdffoaaDoorZw
import Derived.Test.YtgcdgdnmcdffoaaDoorLh
import Derived.Test.YtgcdgdnmcdffoaaDoorZc
import Derived.Test.YtgcdgdnmcdffoaaDoorMk
import Derived.Test.YtgcdgdnmcdffoaaDoorLaw
import Derived.Test.YtgcdgdnmcdffoaaDoorTie
import Derived.Test.YtgcdgdnmcdffoaaDoorCards
import Derived.Lay
import Derived.LaidMore
import Derived.OpenShut
import Derived.Stop.Joined
import Derived.SevenTiedAt
namespace Go.Proofs.YtgcdgdnmcdffoaaDoor
open Go.ChangeShapes Go.WideShapes Go.ChangeAt Go.RowKit

/-- What VisitsOf returns, its numbers named. -/
def RetW (w : World) (m : Nat) (A C : Nat → Int) (c : Int) (e : Ending) (w' : World) : Prop :=
 ∃ so cp, e = .returned (.tuple #[.slice so m cp, .int .i64 c]) ∧ OwU w' w.heap.size so m (fun j => [A j, C j]) ∧ Below w.heap.size w w'
set_option maxRecDepth 100000 in
set_option maxHeartbeats 8000000 in
theorem laws_FnVisits (so : Option Addr) (n cap : Nat) (B : Nat → Int) (w : World) (hl : n ≤ maxLen) (h : RowAt w so n 1 (vb B)) (hB : ∀ i, 0 ≤ B i ∧ B i ≤ 255) :
 Calls Tryd.prog 3 #[.slice so n cap] w fun e w' => e = .returned (.bool true) ∧ Below w.heap.size w w' := by
 unfold maxLen at hl
 by_cases hn : 4096 < n
 ·have Hd := hide (decide_eq_true hn)
  go_enter Tryd.func3, Tryd.ntmps3
  go_wp2_with (go_at_call 5; (with_reducible refine (laws_big _ _ _ _ (by omega)).mono ?_); rintro e w9 ⟨rfl, rfl⟩; rw [Hd.out])
  go_ret
  exact ⟨rfl, bwz⟩
 have Hd := hide (decide_eq_false hn)
 go_enter Tryd.func3, Tryd.ntmps3
 go_wp2_with fail; (with_reducible refine (laws_big _ _ _ _ (by omega)).mono ?_); rintro e w0 ⟨rfl, rfl⟩; rw [Hd.out]
 go_wp2_with fail; (with_reducible refine (spec_DrawVisitsOf so n cap B _ h hB (by omega)).mono ?_); rintro e w1 ⟨⟨ax, ay, bx, bY, cx, cy, dx, dy, cs, m, mcap, N, X, Y, S, Z, k, so2, n2, cap2, T, U, V, rfl, hm, hmc, hn2, hc, hr⟩, hb1⟩; have hz1 := hb1.size
 have HC := hide hc
 have HR := hide hr
 have HB1 := hide hb1
 clear hc hr hb1 hB h Hd
 have K1 := hide (fun W (hb : Below w1.heap.size w1 W) => impl_VisitsOf ax ay bx bY cx cy dx dy cs m mcap N X Y S Z k so2 n2 cap2 T U V W (RowAt.later hb HC.out) (by omega) hmc (RowAt.later hb HR.out) (by omega))
 have K2 := hide (fun W (hb : Below w1.heap.size w1 W) => spec_VisitsOf ax ay bx bY cx cy dx dy cs m mcap N X Y S Z k so2 n2 cap2 T U V W (RowAt.later hb HC.out) (by omega) (RowAt.later hb HR.out) (by omega))
 have KG := hide (fun W (hb : Below w1.heap.size w1 W) => impl_LegsInZone ax ay bx bY cx cy dx dy cs m mcap N X Y S Z k so2 n2 cap2 T U V W (RowAt.later hb HC.out) (by omega) hmc (RowAt.later hb HR.out) (by omega))
 have hlen := lgL_len (isCo ax ay bx bY cx cy dx dy m N X Y S Z) (isTr n2 T U V) m k n2 U V X Y Z
 have hvis : zoC (isCo ax ay bx bY cx cy dx dy m N X Y S Z) (isTr n2 T U V) m k = 0 → _ := fun z => vis_legs (X k.toNat) (Y k.toNat) (Z k.toNat) U V (n2 - 1) (lgL (isCo ax ay bx bY cx cy dx dy m N X Y S Z) (isTr n2 T U V) m k n2 U V X Y Z) (by unfold lgL; rw [if_pos z])
 generalize lgL (isCo ax ay bx bY cx cy dx dy m N X Y S Z) (isTr n2 T U V) m k n2 U V X Y Z = Lg at *
 generalize zoC (isCo ax ay bx bY cx cy dx dy m N X Y S Z) (isTr n2 T U V) m k = c9 at *
 have hvl := vsN_le (gtI Lg) Lg.length
 obtain ⟨nV, e1⟩ : ∃ x, x = vsN (gtI Lg) Lg.length := ⟨_, rfl⟩
 obtain ⟨A, e2⟩ : ∃ x, x = vsA (gtI Lg) Lg.length := ⟨_, rfl⟩
 obtain ⟨C, e3⟩ : ∃ x, x = vsB (gtI Lg) Lg.length := ⟨_, rfl⟩
 have KI := hide (fun W (hb : Below w1.heap.size w1 W) => (show Calls Tryd.prog 7 #[.agg #[.int .i64 ax, .int .i64 ay, .int .i64 bx, .int .i64 bY, .int .i64 cx, .int .i64 cy, .int .i64 dx, .int .i64 dy, .slice cs m mcap], .int .i64 k, .agg #[.slice so2 n2 cap2]] W (RetW W nV A C c9) from by rw [e1, e2, e3]; exact K1.out W hb))
 have KS := hide (fun W (hb : Below w1.heap.size w1 W) => (show Calls Tryd.prog 8 #[.agg #[.int .i64 ax, .int .i64 ay, .int .i64 bx, .int .i64 bY, .int .i64 cx, .int .i64 cy, .int .i64 dx, .int .i64 dy, .slice cs m mcap], .int .i64 k, .agg #[.slice so2 n2 cap2]] W (RetW W nV A C c9) from by rw [e1, e2, e3]; exact K2.out W hb))
 rw [← e1, ← e2, ← e3] at hvis
 rw [← e1] at hvl
 clear e1 e2 e3 K1 K2
 go_wp2_with fail; (with_reducible refine (KI.out _ bwz).mono ?_); rintro e w2 ⟨so4, cp4, rfl, ho4, hb2⟩; obtain ⟨hc2, hf2⟩ := bcell hb2; have hz2 := hb2.size
 have y20 : w1.heap.size < w2.heap.size := by first | omega | (simp at hz2; omega)
 have y21 : w1.heap.size + 1 < w2.heap.size := by first | omega | (simp at hz2; omega)
 have H4 := hide (OwU.read ho4)
 clear ho4
 go_wp2_with fail; (with_reducible refine (KS.out _ bwz).mono ?_); rintro e w3 ⟨so5, cp5, rfl, ho5, hb3⟩; obtain ⟨hc3, hf3⟩ := bcell hb3; have hz3 := hb3.size
 have y30 : w1.heap.size < w3.heap.size := by omega
 have y31 : w1.heap.size + 1 < w3.heap.size := by omega
 have H5 := hide ho5
 have HL := hide (fun W (hb : Below w3.heap.size w3 W) => laws_likeRows so4 so5 nV cp4 cp5 _ W ((H4.out.later hb3).later hb) ((OwU.read H5.out).later hb) (by omega) (fun _ _ => by simp))
 have C0 := hide (show CoAt w3 w1.heap.size ax ay bx bY cx cy dx dy cs m mcap from ⟨by go_simp, by go_simp, by go_simp, by go_simp, by go_simp, by go_simp, by go_simp, by go_simp, by go_simp⟩)
 have c1 : w3.cell? ⟨w1.heap.size + 1, 0, none⟩ = some (.slice so2 n2 cap2) := by go_simp
 have HB3 := hide (show Below w1.heap.size w1 w3 from bwz)
 clear hc2 hf2 hc3 hf3 hb2 hb3 ho5 KI KS H4
 obtain ⟨o0, o1, o2, o3, o4, o5', o6, o7, o8⟩ := C0.out
 by_cases hz : c9 = 0
 case neg =>
  have d1 : (c9 != 0) = true := bne_iff_ne.2 hz
  go_wp2_with (go_at_call 9; (with_reducible refine (HL.out _ (Below.refl _ _)).mono ?_); rintro e w4 ⟨rfl, hb4⟩)
  go_ret
  exact ⟨rfl, HB1.out.trans ((bstep HB3.out hb4).mono hz1)⟩
 subst hz
 obtain ⟨s, s0, s1, s2⟩ := hvis rfl
 have S2 := hide s2
 have S0 := hide s0
 have S1 := hide s1
 clear s0 s1 s2 hvis
 go_wp2_with fail; (with_reducible refine (HL.out _ (Below.refl _ _)).mono ?_); rintro e w4 ⟨rfl, hb4⟩
 have H54 := hide (H5.out.later hb4)
 have HB4 := hide (bstep HB3.out hb4)
 have t1 := cell_later hb4 c1
 clear o0 o1 o2 o3 o4 o5' o6 o7 o8
 obtain ⟨o0, o1, o2, o3, o4, o5', o6, o7, o8⟩ := CoAt.later hb4 C0.out
 clear c1 hb4 H5 HB3 HL C0
 go_wp2_with fail; (with_reducible refine (KG.out _ HB4.out).mono ?_); rintro e w5 ⟨so6, cp6, rfl, ho6, hb5⟩; have hz5 := hb5.size
 have H6 := hide (show RowAt w5 so6 Lg.length 1 (vI Lg) from (OwZ.of ho6).read)
 have HB5 := hide (bstep HB4.out hb5)
 have H55 := hide (H54.out.later hb5)
 clear ho6 o0 o1 o2 o3 o4 o5' o6 o7 o8 t1 hb5 H54 HB4 KG
 go_wp2
 go_loopw [12, 13] (fun c i wr => ∃ k q : Nat, k ≤ nV ∧ i = .int .i64 (k : Int) ∧ c = .int .i64 (q : Int) ∧ Hid (q = s k) ∧ Hid (Below w5.heap.size w5 wr)) (fun _ i _ => nV - (intOf i).toNat)
 case atStart => exact ⟨0, 0, Nat.zero_le _, rfl, rfl, hide S0.out.symm, hide (Below.refl _ _)⟩
 case round =>
  obtain ⟨k, q, hk, rfl, rfl, HQ, HBr⟩ := hrel
  have zr := HBr.out.size
  by_cases hlt : k < nV
  ·obtain ⟨a1, a2, a3, a4, a5, a6, a7, a8⟩ := S2.out k hlt
   obtain ⟨b9, G, C9, rfl, _, _, h4, h5, _⟩ := H55.out.resolve_left (by omega)
   have h4k := h4 k hlt
   have h50 := ((h5 k hlt).2.2 0 (by simp)).1
   have h51 := ((h5 k hlt).2.2 1 (by simp)).1
   have hq1 := HQ.out
   obtain ⟨x, hx⟩ : ∃ x, x = A k := ⟨_, rfl⟩
   obtain ⟨y, hy⟩ : ∃ y, y = C k := ⟨_, rfl⟩
   obtain ⟨gk, hgk⟩ : ∃ y, y = G k := ⟨_, rfl⟩
   obtain ⟨ck, hck⟩ : ∃ y, y = C9 k := ⟨_, rfl⟩
   rw [← hgk, ← hck] at h4k
   rw [← hgk] at h50 h51
   have r0 := hide (show w5.cell? ⟨b9, k, none⟩ = some (.slice (some ⟨gk, 0, none⟩) 2 ck) from h4k)
   have r1 := hide (show w5.cell? ⟨gk, 0, none⟩ = some (.int .i64 x) from h50.trans (by rw [hx]; rfl))
   have r2 := hide (show w5.cell? ⟨gk, 1, none⟩ = some (.int .i64 y) from h51.trans (by rw [hy]; rfl))
   rw [← hx, ← hy] at a2 a4
   rw [← hx] at a1 a7 a8
   rw [← hy] at a3
   obtain ⟨Dd, hD⟩ : ∃ Dd : Nat, (Dd : Int) = y - x + 1 := ⟨(y - x + 1).toNat, by omega⟩
   have HE := hide (show s (k + 1) = q + Dd by omega)
   have HM := hide (show ∀ d, d < Dd → x + (d : Int) ∈ Lg from fun d hd => a7 d (by omega))
   have HP := hide (show 0 < k → ∃ p z gp cp : _, p + 1 = k ∧ z + 1 < x ∧ -1 ≤ z ∧ w5.cell? ⟨b9, p, none⟩ = some (.slice (some ⟨gp, 0, none⟩) 2 cp) ∧ w5.cell? ⟨gp, 1, none⟩ = some (.int .i64 z) from fun h0 => by
    obtain ⟨u1, u2, _⟩ := S2.out (k - 1) (by omega)
    exact ⟨k - 1, C (k - 1), G (k - 1), C9 (k - 1), by omega, a8 h0, by omega, h4 (k - 1) (by omega), ((h5 (k - 1) (by omega)).2.2 1 (by simp)).1.trans rfl⟩)
   have hk0 : (0 : Int) ≤ (k : Int) := by omega
   have hk1 : (k : Int) < (nV : Int) := by omega
   have HDD := hide hD
   have e1 : ¬ y < x := by omega
   have hyb : y ≤ 1048576 := by omega
   have hqb : q + Dd ≤ 1048576 := by omega
   clear a3 a4 a5 a6 a7 a8 h4 h5 h4k h50 h51 hx hy hgk hck hD hq1
   have q0 := cell_later HBr.out r0.out
   have q1 := cell_later HBr.out r1.out
   have q2 := cell_later HBr.out r2.out
   go_upto_region 15 with fail
   go_cut [94] (fun s W => s = .bool false ∧ Hid (Below w5.heap.size w5 W))
   case first =>
    by_cases hkz : k = 0
    ·have dk : ¬ 0 < k := by omega
     have zq0 : b9 < wr.heap.size := World.block_lt_of_cell? _ _ q0
     have zq1 : gk < wr.heap.size := World.block_lt_of_cell? _ _ q1
     clear hkz HP
     refine wp_region_held_drew (S := fun W => Below wr.heap.size wr W) (by kernel_rfl) (Below.drew (Below.refl _ _)) (fun hHeld => ?_)
     refine tkN 0 (some 61) rfl ?_; simp only [pz]
     refine tkN 1 (some 62) rfl ?_; simp only [pz]
     refine tkN 2 (some 63) rfl ?_; simp only [pz]
     refine tkO 3 (some 64) rfl ?_; simp only [pz]
     refine tkO 4 (some 65) rfl ?_; simp only [pz]
     refine tkO 5 (some 66) rfl ?_; simp only [pz]
     refine tkO 6 (some 67) rfl ?_; simp only [pz]
     refine tkO 7 (some 68) rfl ?_; simp only [pz]
     refine tkO 8 (some 69) rfl ?_; simp only [pz]
     refine tkO 9 (some 70) rfl ?_; simp only [pz]
     refine tkO 10 (some 71) rfl ?_; simp only [pz]
     refine tkO 11 (some 72) rfl ?_; simp only [pz]
     refine tkO 12 (some 73) rfl ?_; simp only [pz]
     refine tkO 13 (some 74) rfl ?_; simp only [pz]
     refine tkO 14 (some 75) rfl ?_; simp only [pz]
     refine tkO 15 (some 76) rfl ?_; simp only [pz]
     refine tkO 16 (some 77) rfl ?_; simp only [pz]
     refine tkO 17 (some 78) rfl ?_; simp only [pz]
     refine tkN 18 (some 79) rfl ?_; simp only [pz]
     refine tkN 19 (some 80) rfl ?_; simp only [pz]
     refine tkN 20 (some 81) rfl ?_; simp only [pz]
     refine tkN 21 (some 82) rfl ?_; simp only [pz]
     refine tkN 22 (some 83) rfl ?_; simp only [pz]
     refine tkL 23 (some 84) rfl ?_; simp only [pz]
     refine tkN 24 (some 85) rfl ?_; simp only [pz]
     refine tkL 25 (some 86) rfl ?_; simp only [pz]
     refine tkN 26 (some 87) rfl ?_; simp only [pz]
     refine tkN 27 (some 88) rfl ?_; simp only [pz]
     refine tkN 28 (some 89) rfl ?_; simp only [pz]
     refine tkL 29 (some 90) rfl ?_; simp only [pz]
     refine tkN 30 (some 91) rfl ?_; simp only [pz]
     refine tkL 31 (some 92) rfl ?_; simp only [pz]
     refine tkN 32 (some 93) rfl ?_; simp only [pz]
     refine tkN 33 (some 94) rfl ?_; simp only [pz]
     refine wpAnyH_done (by kernel_rfl) ?_ _; (try simp only [pz])
     go_wp2_with fail
     go_meet
     exact ⟨rfl, hide (HBr.out.trans (hHeld.mono zr))⟩
    ·obtain ⟨p, z, gp, cp, hpk, hz1', hz2', p0, p1⟩ := HP.out (by omega)
     have dk : 0 < k := by omega
     have wk : IntKind.i64.wrap ((k : Int) - 1) = (p : Int) := by rw [IntWalk.i64_in _ (by omega)]; omega
     have wz : IntKind.i64.wrap (z + 1) = z + 1 := IntWalk.i64_in _ (by omega)
     have hp0 : (0 : Int) ≤ (p : Int) := by omega
     have hp1 : (p : Int) < (nV : Int) := by omega
     have e2 : ¬ x ≤ z + 1 := by omega
     have u0 := cell_later HBr.out p0
     have u1 := cell_later HBr.out p1
     have zq0 : b9 < wr.heap.size := World.block_lt_of_cell? _ _ q0
     have zq1 : gk < wr.heap.size := World.block_lt_of_cell? _ _ q1
     have zq2 : gp < wr.heap.size := World.block_lt_of_cell? _ _ u1
     clear hkz HP hpk hz1' p0 p1
     refine wp_region_held_drew (S := fun W => Below wr.heap.size wr W) (by kernel_rfl) (Below.drew (Below.refl _ _)) (fun hHeld => ?_)
     refine tkN 0 (some 61) rfl ?_; simp only [pz]
     refine tkN 1 (some 62) rfl ?_; simp only [pz]
     refine tkN 2 (some 63) rfl ?_; simp only [pz]
     refine tkN 3 (some 64) rfl ?_; simp only [pz]
     refine tkN 4 (some 65) rfl ?_; simp only [pz]
     refine tkN 5 (some 66) rfl ?_; simp only [pz]
     refine tkL 6 (some 67) rfl ?_; simp only [pz]
     refine tkN 7 (some 68) rfl ?_; simp only [pz]
     refine tkL 8 (some 69) rfl ?_; simp only [pz]
     refine tkN 9 (some 70) rfl ?_; simp only [pz]
     refine tkN 10 (some 71) rfl ?_; simp only [pz]
     refine tkN 11 (some 72) rfl ?_; simp only [pz]
     refine tkN 12 (some 73) rfl ?_; simp only [pz]
     refine tkL 13 (some 74) rfl ?_; simp only [pz]
     refine tkN 14 (some 75) rfl ?_; simp only [pz]
     refine tkL 15 (some 76) rfl ?_; simp only [pz]
     refine tkN 16 (some 77) rfl ?_; simp only [pz]
     refine tkN 17 (some 78) rfl ?_; simp only [pz]
     refine tkN 18 (some 79) rfl ?_; simp only [pz]
     refine tkN 19 (some 80) rfl ?_; simp only [pz]
     refine tkN 20 (some 81) rfl ?_; simp only [pz]
     refine tkN 21 (some 82) rfl ?_; simp only [pz]
     refine tkN 22 (some 83) rfl ?_; simp only [pz]
     refine tkL 23 (some 84) rfl ?_; simp only [pz]
     refine tkN 24 (some 85) rfl ?_; simp only [pz]
     refine tkL 25 (some 86) rfl ?_; simp only [pz]
     refine tkN 26 (some 87) rfl ?_; simp only [pz]
     refine tkN 27 (some 88) rfl ?_; simp only [pz]
     refine tkN 28 (some 89) rfl ?_; simp only [pz]
     refine tkL 29 (some 90) rfl ?_; simp only [pz]
     refine tkN 30 (some 91) rfl ?_; simp only [pz]
     refine tkL 31 (some 92) rfl ?_; simp only [pz]
     refine tkN 32 (some 93) rfl ?_; simp only [pz]
     refine tkN 33 (some 94) rfl ?_; simp only [pz]
     refine wpAnyH_done (by kernel_rfl) ?_ _; (try simp only [pz])
     go_wp2_with fail
     go_meet
     exact ⟨rfl, hide (HBr.out.trans (hHeld.mono zr))⟩
   case rest =>
    obtain ⟨rfl, HBc⟩ := hcut
    have zc := HBc.out.size
    clear q0 q1 q2 HP
    have q0 := cell_later HBc.out r0.out
    have q1 := cell_later HBc.out r1.out
    have q2 := cell_later HBc.out r2.out
    obtain ⟨wo, rfl⟩ : ∃ W : World, W = wc := ⟨_, rfl⟩
    go_wp2
    go_loopw [12, 14] (fun c l wi => ∃ (d c9 : Nat) (l9 : Int), l = .int .i64 l9 ∧ c = .int .i64 (c9 : Int) ∧ Hid (l9 = x + (d : Int) ∧ c9 = q + d ∧ d ≤ Dd) ∧ Hid (Below w5.heap.size w5 wi)) (fun _ l _ => (y + 1 - intOf l).toNat)
    case atStart => exact ⟨0, q, x, rfl, rfl, hide ⟨by simp, by simp, Nat.zero_le _⟩, HBc⟩
    case round =>
     obtain ⟨d, c9, l9, rfl, rfl, HX, HBi⟩ := hrel
     obtain ⟨x1, x2, x3⟩ := HX.out
     have hD := HDD.out
     clear q0 q1 q2
     have q0 := cell_later HBi.out r0.out
     have q2 := cell_later HBi.out r2.out
     by_cases hd : d < Dd
     ·have hle : l9 ≤ y := by omega
      have hmem := HM.out d hd
      rw [← x1] at hmem
      have KH := hide (fun W (hb : Below w5.heap.size w5 W) => (laws_hasInt so6 cp6 Lg l9 W (RowAt.later hb H6.out) (by omega)).mono fun e w' (h : e = .returned (.bool (decide (l9 ∈ Lg))) ∧ Below W.heap.size W w') => (show e = .returned (.bool true) ∧ Below W.heap.size W w' from ⟨h.1.trans (by rw [decide_eq_true hmem]), h.2⟩))
      have HX2 := hide (show l9 + 1 = x + ((d + 1 : Nat) : Int) ∧ c9 + 1 = q + (d + 1) ∧ d + 1 ≤ Dd from ⟨by omega, by omega, by omega⟩)
      have wl : IntKind.i64.wrap (l9 + 1) = l9 + 1 := IntWalk.i64_in _ (by omega)
      have hcb : c9 ≤ 1048576 := by omega
      have hl0 : 0 ≤ l9 := by omega
      clear x1 x2 x3 hd hmem HX hD
      go_wp2_with fail; (with_reducible refine (KH.out _ HBi.out).mono ?_); rintro e wh ⟨rfl, hbh⟩
      have HBh := hide (bstep HBi.out hbh)
      clear hbh q0 q2
      go_wp2
      go_roundw
      case rel => exact ⟨d + 1, c9 + 1, l9 + 1, rfl, by go_num, HX2, HBh⟩
      case measure => simp [intOf]; omega
     ·have hle : ¬ l9 ≤ y := by omega
      have HQ2 := hide (show c9 = s (k + 1) by have := HE.out; omega)
      clear x1 x2 x3 hd HX hD
      go_wp2
      go_roundw
      case rel => exact ⟨k + 1, c9, by omega, by go_num, rfl, HQ2, HBi⟩
      case measure => simp [intOf]; omega
  ·obtain rfl : k = nV := by omega
   obtain rfl : Lg.length = q := S1.out.symm.trans HQ.out.symm
   go_wp2
   go_ret
   exact ⟨rfl, HB1.out.trans ((HB5.out.trans (HBr.out.mono (by have := HB5.out.size; omega))).mono hz1)⟩

set_option maxRecDepth 100000 in
theorem FnVisits_lifted (os : Os) (started : os.Started) (H : Type) (enc : TypeId × Value → H) :
 ReturnsInHanded {} Tryd.checked os 3 .any (fun w args => (Rows.fnVisitsSpec.pre enc Tryd.prog Tryd.f3 [] false w args ∧ laidMetH Tryd.prog Rows.fnVisitsRow.laid w) ∧ sizedMet enc Tryd.prog Tryd.f3 (OpenSpec.ofChange Rows.fnVisitsSpec) false w args) (Rows.fnVisitsSpec.post enc Tryd.prog Tryd.f3 false true false false) := by
 refine returnsInHanded_of_change_and (C := Tryd.checked) (X := fun w _ => laidMetH Tryd.prog Rows.fnVisitsRow.laid w) (fun _ _ _ hh h => h.of_heap hh) Tryd.own started (by as_aux_lemma => kernel_rfl) Tryd.func3
  (ChangeSpec.witness_shaped (enc := enc) (C := Tryd.checked) (os := os) (X := fun w _ => laidMetH Tryd.prog Rows.fnVisitsRow.laid w) false (World.laidAll Tryd.prog os Rows.fnVisitsRow.laid) #[.slice none 0 0] 8 (World.laidAll_os _ _ _) (World.shaped_of_ZipB (by as_aux_lemma => kernel_rfl) (by as_aux_lemma => kernel_rfl)) (by as_aux_lemma => kernel_rfl) (by as_aux_lemma => kernel_rfl) (by as_aux_lemma => kernel_rfl) (by rw [MakeChecks.laidMetH_plain _ _ _ (by as_aux_lemma => kernel_rfl)]; exact laidMet_laidAll _ (by as_aux_lemma => kernel_rfl) (by as_aux_lemma => kernel_rfl))) ?_
 intro W base args ds gs before hval0 hW _ _ hL _
 have hval : ∀ (j : Nat) t v, Tryd.f3.params[j]? = some t → args[j]? = some v → Value.okWide Tryd.prog W .any base t v := hval0
 have hW' := hW
 obtain ⟨p, q, hA0, hV, rfl, _, _⟩ := hW
 have hA : DataW.TrodAll enc Tryd.prog W 0 (fun _ => true) true Tryd.f3.params.toList args.toList ds p := hA0
 rw [Tryd.params3] at hA hval
 obtain ⟨v0, vs0, d0, ds0, p0, q0, hargs, rfl, rfl, h0, r0⟩ := trodAll_cons hA
 obtain ⟨rfl, rfl, rfl⟩ := trodAll_nil r0
 obtain rfl : args = #[v0] := by cases args; simp_all
 obtain ⟨so0, n0, cp0, B0, rfl, hl0, hr0, hB0⟩ := op_bytes (hval 0 22 v0 rfl rfl) h0
 obtain ⟨rfl, rfl⟩ := trodVars_none hV
 refine (laws_FnVisits so0 n0 cp0 B0 W hl0 hr0 hB0).mono fun e W1 ⟨he, hb⟩ => ⟨_, he, ?_⟩
 exact law_post Tryd.laidOut (by as_aux_lemma => kernel_rfl) Tryd.underlying4 rfl rfl hW' rfl rfl rfl hb
set_option maxHeartbeats 8000000 in
theorem FnVisits_closed : joinedFacts Tryd.prog 3 Tryd.f3 Rows.fnVisitsSpec Rows.fnVisitsRow = true := by
 simp only [joinedFacts, Bool.and_eq_true, Tryd.laidOut, Tryd.mapsRowed, Tryd.stopsNone, Tryd.stopKnobsNone, Tryd.plainKeysIs, Tryd.stopsHeardIs, Tryd.mayEnterIs, Tryd.liftsFinalIs, Tryd.makeIs, and_true]
 repeat' (with_reducible refine And.intro ?_ ?_)
 all_goals (as_aux_lemma => kernel_rfl)
set_option maxHeartbeats 8000000 in
/-- FnVisits: whatever the input, the law returns true, and the input reads as it did. -/
theorem FnVisits_row : Rows.FnVisitsSaid :=
 OpenClaim.holds_of_wide 3 Tryd.f3 rfl rfl rfl rfl rfl rfl rfl ⟨rfl, rfl, rfl, rfl, rfl⟩ rfl rfl rfl rfl rfl (by as_aux_lemma => kernel_rfl) Tryd.func3
  FnVisits_closed
  (of_decide_eq_true (by as_aux_lemma => kernel_rfl)) (by unfold Func.isWrapper; rw [if_neg (of_decide_eq_false (by as_aux_lemma => kernel_rfl))]; exact ⟨rfl, rfl⟩)
  (fun os started H enc _ => FnVisits_lifted os started H enc)

set_option maxHeartbeats 8000000 in
/-- FnVisits: the tied card. -/
theorem FnVisits_holds : Rows.FnVisitsCardSaid :=
 Claim7.holds_tied_plain_at .later [] [.data, .pinned] true (true, "a474a57ef87f4e7ea7ebc13e416415b00c3e81731f1ca5f477a84b0ab1c79253") false
  FnVisits_row (fun _ h => by cases h) (by as_aux_lemma => kernel_rfl) (fun _ h => by cases h) fnVisits_row_tie rfl ⟨rfl, rfl⟩ (by as_aux_lemma => kernel_rfl) rfl
  (fun f fn hf hfn => by
   obtain rfl : f = 3 := Option.some.inj ((show Tryd.prog.funcNamed Rows.fnVisitsRow.func = some 3 by kernel_rfl).symm.trans hf) |>.symm
   obtain rfl : fn = Tryd.f3 := (Option.some.inj (Tryd.func3.symm.trans hfn)).symm
   exact ⟨by kernel_rfl, fun j t ht => by
    rw [Tryd.params3] at ht
    have hm : t ∈ [22] := by simpa using Array.mem_of_getElem? ht
    have hall : ([22].all fun u => !Tryd.prog.wantsStandIn u) = true := by kernel_rfl
    exact (show Tryd.prog.wantsStandIn t = false by simpa using List.all_eq_true.1 hall t hm)⟩)
  (by as_aux_lemma => kernel_rfl)
#print axioms FnVisits_holds
end Go.Proofs.YtgcdgdnmcdffoaaDoor
