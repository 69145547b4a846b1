/- FnSailed holds: the stations of a course are reached in order, and as many as the times say; for every code. What the program's text lays in the library's table is all that the card takes. -/
import Derived.Test.YtgcdgdnmcdffoaaGreatDoorYj
import Derived.Test.YtgcdgdnmcdffoaaGreatDoorXq
import Derived.Test.YtgcdgdnmcdffoaaGreatDoorMk
import Derived.Test.YtgcdgdnmcdffoaaGreatDoorLaw
import Derived.Test.YtgcdgdnmcdffoaaGreatDoorTie
import Derived.Test.YtgcdgdnmcdffoaaGreatDoorCards
import Derived.Lay
import Derived.LaidMore
import Derived.OpenShut
import Derived.Stop.Joined
import Derived.SevenTiedAt
namespace Go.Proofs.YtgcdgdnmcdffoaaGreatDoor
open Go.ChangeShapes Go.WideShapes Go.ChangeAt Go.RowKit

set_option maxRecDepth 100000 in
set_option maxHeartbeats 8000000 in
theorem laws_FnSailed (so : Option Addr) (n cap : Nat) (B : Nat → Int) (w : World) (hl : n ≤ maxLen) (h : RowAt w so n 1 (vb B)) (hB : ∀ i, 0 ≤ B i ∧ B i ≤ 255) :
 Calls Tryz.prog 6 #[.slice so n cap] w fun e w' => e = .returned (.bool true) ∧ Below w.heap.size w w' := by
 unfold maxLen at hl
 by_cases hn : 4096 < n
 ·have Hd := hide (decide_eq_true hn)
  go_enter Tryz.func6, Tryz.ntmps6
  go_wp2_with (go_at_call 8; (with_reducible refine (laws_big _ _ _ _ (by omega)).mono ?_); rintro e w9 ⟨rfl, rfl⟩; rw [Hd.out])
  go_ret
  exact ⟨rfl, bwz⟩
 have Hd := hide (decide_eq_false hn)
 go_enter Tryz.func6, Tryz.ntmps6
 go_wp2_with fail; (with_reducible refine (laws_big _ _ _ _ (by omega)).mono ?_); rintro e w0 ⟨rfl, rfl⟩; rw [Hd.out]
 go_wp2_with fail; (with_reducible refine (spec_DrawReachedAt so n cap B _ h hB (by omega)).mono ?_); rintro e w1 ⟨⟨ax, ay, bx, bY, cx, cy, dx, dy, cs, m, mcap, N, X, Y, S, Z, tm, so2, n2, cap2, T, U, V, rfl, hm, hmc, hn2, hc, hr⟩, hb1⟩; have hz1 := hb1.size
 have HC := hide hc
 have HR := hide hr
 have HB1 := hide hb1
 clear hc hr hb1 hB h Hd
 have hinc := tsL_inc ax ay bx bY cx cy dx dy cs m mcap N X Y S Z n2 T U V
 have hlen := tsL_le ax ay bx bY cx cy dx dy cs m mcap N X Y S Z n2 T U V
 have hn8 : (tsC (isCo ax ay bx bY cx cy dx dy m N X Y S Z) (isTr n2 T U V) (lnsOk (lnA ax ay bx bY cx cy dx dy m X Y S Z) (lnB ax ay bx bY cx cy dx dy m X Y S Z) (lnC ax ay bx bY cx cy dx dy m X Y S Z) (lnD ax ay bx bY cx cy dx dy m X Y S Z) (m + 1))) = 0 → m ≤ 8 := fun z => (isCo_t (tsC_z z).1).2.2.2.1
 have KI := hide (fun W (hb : Below w1.heap.size w1 W) => impl_ReachedAt ax ay bx bY cx cy dx dy cs m mcap N X Y S Z so2 n2 cap2 T U V tm W (RowAt.later hb HC.out) (by omega) hmc (RowAt.later hb HR.out) (by omega))
 have KS := hide (fun W (hb : Below w1.heap.size w1 W) => spec_ReachedAt ax ay bx bY cx cy dx dy cs m mcap N X Y S Z so2 n2 cap2 T U V tm W (RowAt.later hb HC.out) (by omega) (RowAt.later hb HR.out) (by omega))
 have KT := hide (fun W (hb : Below w1.heap.size w1 W) => impl_TimesSailed ax ay bx bY cx cy dx dy cs m mcap N X Y S Z so2 n2 cap2 T U V W (RowAt.later hb HC.out) (by omega) hmc (RowAt.later hb HR.out) (by omega))
 have KL := hide (fun W (hb : Below w1.heap.size w1 W) => impl_LegTimes ax ay bx bY cx cy dx dy cs m mcap N X Y S Z so2 n2 cap2 T U V W (RowAt.later hb HC.out) (by omega) hmc (RowAt.later hb HR.out) (by omega))
 have KF := hide (fun W (hb : Below w1.heap.size w1 W) => impl_FinishTime ax ay bx bY cx cy dx dy cs m mcap N X Y S Z so2 n2 cap2 T U V W (RowAt.later hb HC.out) (by omega) hmc (RowAt.later hb HR.out) (by omega))
 generalize (tsL (isCo ax ay bx bY cx cy dx dy m N X Y S Z) (isTr n2 T U V) (lnA ax ay bx bY cx cy dx dy m X Y S Z) (lnB ax ay bx bY cx cy dx dy m X Y S Z) (lnC ax ay bx bY cx cy dx dy m X Y S Z) (lnD ax ay bx bY cx cy dx dy m X Y S Z) n2 T U V m) = Lx at *
 generalize (tsC (isCo ax ay bx bY cx cy dx dy m N X Y S Z) (isTr n2 T U V) (lnsOk (lnA ax ay bx bY cx cy dx dy m X Y S Z) (lnB ax ay bx bY cx cy dx dy m X Y S Z) (lnC ax ay bx bY cx cy dx dy m X Y S Z) (lnD ax ay bx bY cx cy dx dy m X Y S Z) (m + 1))) = c9 at *
 have HI := hide hinc
 have hcl := cntL_le Lx tm Lx.length
 obtain ⟨rn, hrn⟩ : ∃ x, x = cntL Lx tm Lx.length := ⟨_, rfl⟩
 rw [← hrn] at KI KS hcl
 have HRN := hide hrn
 clear hinc hrn
 by_cases hz : c9 = 0
 case neg =>
  have d1 : (c9 != 0) = true := bne_iff_ne.2 hz
  clear hn8 KT KL KF
  go_wp2_with fail; (with_reducible refine (KI.out _ bwz).mono ?_); rintro e w2 ⟨rfl, hbw2⟩; obtain ⟨hcw2, hfw2⟩ := bcell hbw2; have hzw2 := hbw2.size; have zzw20 : w1.heap.size < w2.heap.size := (by first | omega | (simp at hzw2; omega)); have zzw21 : w1.heap.size + 1 < w2.heap.size := (by first | omega | (simp at hzw2; omega))
  go_wp2_with fail; (with_reducible refine (KS.out _ bwz).mono ?_); rintro e w3 ⟨rfl, hbw3⟩; obtain ⟨hcw3, hfw3⟩ := bcell hbw3; have hzw3 := hbw3.size; have zzw30 : w1.heap.size < w3.heap.size := (by first | omega | (simp at hzw3; omega)); have zzw31 : w1.heap.size + 1 < w3.heap.size := (by first | omega | (simp at hzw3; omega))
  have hb1 := HB1.out
  go_wp2
  go_ret
  exact ⟨rfl, bwz⟩
 subst hz
 have hn8 := hn8 rfl
 have hdl := dfL_len Lx Lx.length
 have hdat := dfL_at Lx Lx.length
 generalize dfL Lx Lx.length = Dx at *
 have HDA := hide hdat
 have hdl1 : Dx.length ≤ Lx.length - 1 := by omega
 have hdl2 : Lx.length - 1 ≤ Dx.length := by omega
 clear hdat hdl
 go_wp2_with fail; (with_reducible refine (KI.out _ bwz).mono ?_); rintro e w2 ⟨rfl, hbw2⟩; obtain ⟨hcw2, hfw2⟩ := bcell hbw2; have hzw2 := hbw2.size; have zzw20 : w1.heap.size < w2.heap.size := (by first | omega | (simp at hzw2; omega)); have zzw21 : w1.heap.size + 1 < w2.heap.size := (by first | omega | (simp at hzw2; omega))
 go_wp2_with fail; (with_reducible refine (KS.out _ bwz).mono ?_); rintro e w3 ⟨rfl, hbw3⟩; obtain ⟨hcw3, hfw3⟩ := bcell hbw3; have hzw3 := hbw3.size; have zzw30 : w1.heap.size < w3.heap.size := (by first | omega | (simp at hzw3; omega)); have zzw31 : w1.heap.size + 1 < w3.heap.size := (by first | omega | (simp at hzw3; omega))
 go_wp2_with fail; (with_reducible refine (KT.out _ bwz).mono ?_); rintro e w4 ⟨so4, cp4, rfl, ho4, hb4⟩; obtain ⟨hc4, hf4⟩ := bcell hb4; have hz4 := hb4.size
 have y40 : w1.heap.size < w4.heap.size := by first | omega | (simp at hz4; omega)
 have y41 : w1.heap.size + 1 < w4.heap.size := by first | omega | (simp at hz4; omega)
 obtain ⟨g4, hg4, hr4⟩ := OwZ.gets (OwZ.of ho4)
 have hs4 : Lx.length = 0 ∨ so4 = some ⟨g4, 0, none⟩ := hg4.imp id (·.1)
 have HR4 := hide hr4
 clear ho4 hg4 hr4
 go_wp2_with fail; (with_reducible refine (KL.out _ bwz).mono ?_); rintro e w5 ⟨so5, cp5, rfl, ho5, hb5⟩; obtain ⟨hc5, hf5⟩ := bcell hb5; have hz5 := hb5.size
 have y50 : w1.heap.size < w5.heap.size := by omega
 have y51 : w1.heap.size + 1 < w5.heap.size := by omega
 obtain ⟨g5, hg5, hr5⟩ := OwZ.gets (OwZ.of ho5)
 have hs5 : Dx.length = 0 ∨ so5 = some ⟨g5, 0, none⟩ := hg5.imp id (·.1)
 have HR5 := hide hr5
 have HR4' := hide (fun j hj => cell_later hb5 (HR4.out j hj))
 have c0 := hide (show CoAt w5 w1.heap.size ax ay bx bY cx cy dx dy cs m mcap from ⟨by go_simp, by go_simp, by go_simp, by go_simp, by go_simp, by go_simp, by go_simp, by go_simp, by go_simp⟩)
 have c1 : w5.cell? ⟨w1.heap.size + 1, 0, none⟩ = some (.slice so2 n2 cap2) := by go_simp
 have HB5 := hide (show Below w1.heap.size w1 w5 from bwz)
 clear ho5 hg5 hr5 HR4 hcw2 hfw2 hbw2 hzw2 hcw3 hfw3 hbw3 hzw3 hc4 hf4 hb4 hc5 hf5 hb5 KI KS KT KL
 go_wp2
 go_loopw [14, 15] (fun c i wr => ∃ k q : Nat, k ≤ Lx.length ∧ q ≤ k ∧ i = .int .i64 (k : Int) ∧ c = .int .i64 (q : Int) ∧ Hid (q = cntL Lx tm k) ∧ Hid (Below w5.heap.size w5 wr)) (fun _ i _ => Lx.length - (intOf i).toNat)
 case atStart => exact ⟨0, 0, Nat.zero_le _, Nat.le_refl _, rfl, rfl, hide rfl, hide (Below.refl _ _)⟩
 case round =>
  obtain ⟨k, q, hk, hq, rfl, rfl, HQ, HBr⟩ := hrel
  have zr := HBr.out.size
  by_cases hlt : k < Lx.length
  ·obtain rfl : so4 = some ⟨g4, 0, none⟩ := hs4.resolve_left (by omega)
   have hk0 : (0 : Int) ≤ (k : Int) := by omega
   have hk1 : (k : Int) < (Lx.length : Int) := by omega
   have ck := cell_later HBr.out (HR4'.out k hlt)
   obtain ⟨i1, i2, i3⟩ := HI.out k hlt
   obtain ⟨x, hx⟩ : ∃ x, x = lgt Lx k := ⟨_, rfl⟩
   have HS := hide (cntL_step Lx tm k x hx)
   rw [← hx] at ck i1 i2 i3
   go_upto_region 16 with fail
   go_cut [105] (fun s W => s = .bool false ∧ Hid (Below w5.heap.size w5 W))
   case first =>
    by_cases hkz : k = 0
    ·have dk : ¬ 0 < k := by omega
     have zg4 : g4 < wr.heap.size := World.block_lt_of_cell? _ _ ck
     clear hkz i3 hx
     refine wp_region_held_drew (S := fun W => Below wr.heap.size wr W) (by kernel_rfl) (Below.drew (Below.refl _ _)) (fun hHeld => ?_)
     refine tkN 0 (some 68) rfl ?_; simp only [pz]
     refine tkN 1 (some 69) rfl ?_; simp only [pz]
     refine tkN 2 (some 70) rfl ?_; simp only [pz]
     refine tkO 3 (some 71) rfl ?_; simp only [pz]
     refine tkO 4 (some 72) rfl ?_; simp only [pz]
     refine tkO 5 (some 73) rfl ?_; simp only [pz]
     refine tkO 6 (some 74) rfl ?_; simp only [pz]
     refine tkO 7 (some 75) rfl ?_; simp only [pz]
     refine tkO 8 (some 76) rfl ?_; simp only [pz]
     refine tkO 9 (some 77) rfl ?_; simp only [pz]
     refine tkO 10 (some 78) rfl ?_; simp only [pz]
     refine tkO 11 (some 79) rfl ?_; simp only [pz]
     refine tkO 12 (some 80) rfl ?_; simp only [pz]
     refine tkO 13 (some 81) rfl ?_; simp only [pz]
     refine tkO 14 (some 82) rfl ?_; simp only [pz]
     refine tkO 15 (some 83) rfl ?_; simp only [pz]
     refine tkO 16 (some 84) rfl ?_; simp only [pz]
     refine tkO 17 (some 85) rfl ?_; simp only [pz]
     refine tkO 18 (some 86) rfl ?_; simp only [pz]
     refine tkO 19 (some 87) rfl ?_; simp only [pz]
     refine tkO 20 (some 88) rfl ?_; simp only [pz]
     refine tkO 21 (some 89) rfl ?_; simp only [pz]
     refine tkO 22 (some 90) rfl ?_; simp only [pz]
     refine tkO 23 (some 91) rfl ?_; simp only [pz]
     refine tkO 24 (some 92) rfl ?_; simp only [pz]
     refine tkO 25 (some 93) rfl ?_; simp only [pz]
     refine tkO 26 (some 94) rfl ?_; simp only [pz]
     refine tkO 27 (some 95) rfl ?_; simp only [pz]
     refine tkO 28 (some 96) rfl ?_; simp only [pz]
     refine tkO 29 (some 97) rfl ?_; simp only [pz]
     refine tkO 30 (some 98) rfl ?_; simp only [pz]
     refine tkO 31 (some 99) rfl ?_; simp only [pz]
     refine tkO 32 (some 100) rfl ?_; simp only [pz]
     refine tkO 33 (some 101) rfl ?_; simp only [pz]
     refine tkO 34 (some 102) rfl ?_; simp only [pz]
     refine tkO 35 (some 103) rfl ?_; simp only [pz]
     refine tkO 36 (some 104) rfl ?_; simp only [pz]
     refine tkN 37 (some 105) rfl ?_; simp only [pz]
     refine wpAnyH_done (by kernel_rfl) ?_ _; (try simp only [pz])
     go_wp2_with fail
     go_meet
     exact ⟨rfl, hide (HBr.out.trans (hHeld.mono zr))⟩
    ·obtain ⟨p, hp⟩ : ∃ p, p = k - 1 := ⟨_, rfl⟩
     have i3 := i3 (by omega)
     rw [← hp] at i3
     have hpl : p < Lx.length := by omega
     have hpd : p < Dx.length := by omega
     have hpk : p + 1 = k := by omega
     have cp := cell_later HBr.out (HR4'.out p hpl)
     have cd := cell_later HBr.out (HR5.out p hpd)
     rw [HDA.out p (by omega), hpk, ← hx] at cd
     obtain ⟨j1, j2, _⟩ := HI.out p hpl
     obtain ⟨y, hy⟩ : ∃ y, y = lgt Lx p := ⟨_, rfl⟩
     rw [← hy] at cp cd i3 j1 j2
     obtain rfl : so5 = some ⟨g5, 0, none⟩ := hs5.resolve_left (by omega)
     have dk : 0 < k := by omega
     have wk : IntKind.i64.wrap ((k : Int) - 1) = (p : Int) := by rw [IntWalk.i64_in _ (by omega)]; omega
     have wx : IntKind.i64.wrap (x - y) = x - y := IntWalk.i64_in _ (by omega)
     have hp0 : (0 : Int) ≤ (p : Int) := by omega
     have hp1 : (p : Int) < (Lx.length : Int) := by omega
     have hp2 : (p : Int) < (Dx.length : Int) := by omega
     have e1 : ¬ x < y := by omega
     have e2 : ¬ (Dx.length : Int) < (k : Int) := by omega
     have zg4 : g4 < wr.heap.size := World.block_lt_of_cell? _ _ ck
     have zg5 : g5 < wr.heap.size := World.block_lt_of_cell? _ _ cd
     clear hkz hx hy hp hpk i3
     refine wp_region_held_drew (S := fun W => Below wr.heap.size wr W) (by kernel_rfl) (Below.drew (Below.refl _ _)) (fun hHeld => ?_)
     refine tkN 0 (some 68) rfl ?_; simp only [pz]
     refine tkN 1 (some 69) rfl ?_; simp only [pz]
     refine tkN 2 (some 70) rfl ?_; simp only [pz]
     refine tkN 3 (some 71) rfl ?_; simp only [pz]
     refine tkN 4 (some 72) rfl ?_; simp only [pz]
     refine tkN 5 (some 73) rfl ?_; simp only [pz]
     refine tkL 6 (some 74) rfl ?_; simp only [pz]
     refine tkN 7 (some 75) rfl ?_; simp only [pz]
     refine tkN 8 (some 76) rfl ?_; simp only [pz]
     refine tkN 9 (some 77) rfl ?_; simp only [pz]
     refine tkN 10 (some 78) rfl ?_; simp only [pz]
     refine tkL 11 (some 79) rfl ?_; simp only [pz]
     refine tkN 12 (some 80) rfl ?_; simp only [pz]
     refine tkN 13 (some 81) rfl ?_; simp only [pz]
     refine tkN 14 (some 82) rfl ?_; simp only [pz]
     refine tkN 15 (some 83) rfl ?_; simp only [pz]
     refine tkN 16 (some 84) rfl ?_; simp only [pz]
     refine tkN 17 (some 85) rfl ?_; simp only [pz]
     refine tkN 18 (some 86) rfl ?_; simp only [pz]
     refine tkN 19 (some 87) rfl ?_; simp only [pz]
     refine tkN 20 (some 88) rfl ?_; simp only [pz]
     refine tkN 21 (some 89) rfl ?_; simp only [pz]
     refine tkN 22 (some 90) rfl ?_; simp only [pz]
     refine tkN 23 (some 91) rfl ?_; simp only [pz]
     refine tkL 24 (some 92) rfl ?_; simp only [pz]
     refine tkN 25 (some 93) rfl ?_; simp only [pz]
     refine tkN 26 (some 94) rfl ?_; simp only [pz]
     refine tkN 27 (some 95) rfl ?_; simp only [pz]
     refine tkL 28 (some 96) rfl ?_; simp only [pz]
     refine tkN 29 (some 97) rfl ?_; simp only [pz]
     refine tkN 30 (some 98) rfl ?_; simp only [pz]
     refine tkN 31 (some 99) rfl ?_; simp only [pz]
     refine tkN 32 (some 100) rfl ?_; simp only [pz]
     refine tkL 33 (some 101) rfl ?_; simp only [pz]
     refine tkN 34 (some 102) rfl ?_; simp only [pz]
     refine tkN 35 (some 103) rfl ?_; simp only [pz]
     refine tkN 36 (some 104) rfl ?_; simp only [pz]
     refine tkN 37 (some 105) rfl ?_; simp only [pz]
     refine wpAnyH_done (by kernel_rfl) ?_ _; (try simp only [pz])
     go_wp2_with fail
     go_meet
     exact ⟨rfl, hide (HBr.out.trans (hHeld.mono zr))⟩
   case rest =>
    obtain ⟨rfl, HBc⟩ := hcut
    have ck2 := cell_later HBc.out (HR4'.out k hlt)
    rw [← hx] at ck2
    clear hx i3 ck
    by_cases hle : x ≤ tm
    ·have HQ2 := hide (show q + 1 = cntL Lx tm (k + 1) by rw [HS.out, if_pos hle, ← HQ.out])
     go_wp2
     go_roundw
     case rel => exact ⟨k + 1, q + 1, by omega, by omega, by go_num, by go_num, HQ2, HBc⟩
     case measure => simp [intOf]; omega
    ·have HQ2 := hide (show q = cntL Lx tm (k + 1) by rw [HS.out, if_neg hle, ← HQ.out])
     go_wp2
     go_roundw
     case rel => exact ⟨k + 1, q, by omega, by omega, by go_num, rfl, HQ2, HBc⟩
     case measure => simp [intOf]; omega
  ·obtain rfl : k = Lx.length := by omega
   obtain rfl : rn = q := HRN.out.trans HQ.out.symm
   have HBw := hide (HB5.out.trans (HBr.out.mono (by omega)))
   obtain ⟨o0, o1, o2, o3, o4, o5', o6, o7, o8⟩ := CoAt.later HBr.out c0.out
   have t0 := cell_later HBr.out c1
   obtain ⟨m2, hm9⟩ : ∃ m2 : Nat, m2 = m + 2 := ⟨_, rfl⟩
   have wn : IntKind.i64.wrap ((m : Int) + 2) = (m2 : Int) := by rw [hm9]; exact IntWalk.i64_in _ (by omega)
   by_cases hl : Lx.length < m + 2
   ·have KF2 := hide (fun W hb => KF.out W hb)
    have KF3 := KF.out
    rw [fnR_few hl] at KF3
    have KF3 := hide KF3
    have d2 : ((Lx.length : Int) == (m2 : Int)) = false := beq_eq_false_iff_ne.2 (by omega)
    clear KF KF2 hl hm9 c1
    go_wp2_with fail; (with_reducible refine (KF3.out _ HBw.out).mono ?_); rintro e w6 ⟨rfl, hb6⟩; have hz6 := hb6.size
    have q8 := cell_later hb6 o8
    go_wp2
    go_ret
    exact ⟨rfl, HB1.out.trans ((bstep HBw.out hb6).mono hz1)⟩
   ·have KF3 := KF.out
    rw [fnR_all hl] at KF3
    obtain ⟨q9, hq9⟩ : ∃ q9, q9 = Lx.length - 1 := ⟨_, rfl⟩
    rw [← hq9] at KF3
    have wq : IntKind.i64.wrap ((Lx.length : Int) - 1) = (q9 : Int) := by rw [IntWalk.i64_in _ (by omega)]; omega
    have hq0 : (0 : Int) ≤ (q9 : Int) := by omega
    have hq1 : (q9 : Int) < (Lx.length : Int) := by omega
    have d2 : ((Lx.length : Int) == (m2 : Int)) = true := beq_iff_eq.2 (by omega)
    obtain rfl : so4 = some ⟨g4, 0, none⟩ := hs4.resolve_left (by omega)
    have cq := cell_later HBr.out (HR4'.out q9 (by omega))
    obtain ⟨x9, hx9⟩ : ∃ x9, x9 = lgt Lx q9 := ⟨_, rfl⟩
    rw [← hx9] at cq KF3
    have KF3 := hide KF3
    clear KF hl hm9 c1 hx9 hq9
    go_wp2_with fail; (with_reducible refine (KF3.out _ HBw.out).mono ?_); rintro e w6 ⟨rfl, hb6⟩; have hz6 := hb6.size
    have q8 := cell_later hb6 o8
    have cq2 := cell_later hb6 cq
    go_wp2
    go_ret
    exact ⟨rfl, HB1.out.trans ((bstep HBw.out hb6).mono hz1)⟩

set_option maxRecDepth 100000 in
theorem FnSailed_lifted (os : Os) (started : os.Started) (H : Type) (enc : TypeId × Value → H) :
 ReturnsInHanded {} Tryz.checked os 6 .any (fun w args => (Rows.fnSailedSpec.pre enc Tryz.prog Tryz.f6 [] false w args ∧ laidMetH Tryz.prog Rows.fnSailedRow.laid w) ∧ sizedMet enc Tryz.prog Tryz.f6 (OpenSpec.ofChange Rows.fnSailedSpec) false w args) (Rows.fnSailedSpec.post enc Tryz.prog Tryz.f6 false true false false) := by
 refine returnsInHanded_of_change_and (C := Tryz.checked) (X := fun w _ => laidMetH Tryz.prog Rows.fnSailedRow.laid w) (fun _ _ _ hh h => h.of_heap hh) Tryz.own started (by as_aux_lemma => kernel_rfl) Tryz.func6
  (ChangeSpec.witness_shaped (enc := enc) (C := Tryz.checked) (os := os) (X := fun w _ => laidMetH Tryz.prog Rows.fnSailedRow.laid w) false (World.laidAll Tryz.prog os Rows.fnSailedRow.laid) #[.slice none 0 0] 8 (World.laidAll_os _ _ _) (World.shaped_of_ZipB (by as_aux_lemma => kernel_rfl) (by as_aux_lemma => kernel_rfl)) (by as_aux_lemma => kernel_rfl) (by as_aux_lemma => kernel_rfl) (by as_aux_lemma => kernel_rfl) (by rw [MakeChecks.laidMetH_plain _ _ _ (by as_aux_lemma => kernel_rfl)]; exact laidMet_laidAll _ (by as_aux_lemma => kernel_rfl) (by as_aux_lemma => kernel_rfl))) ?_
 intro W base args ds gs before hval0 hW _ _ hL _
 have hval : ∀ (j : Nat) t v, Tryz.f6.params[j]? = some t → args[j]? = some v → Value.okWide Tryz.prog W .any base t v := hval0
 have hW' := hW
 obtain ⟨p, q, hA0, hV, rfl, _, _⟩ := hW
 have hA : DataW.TrodAll enc Tryz.prog W 0 (fun _ => true) true Tryz.f6.params.toList args.toList ds p := hA0
 rw [Tryz.params6] at hA hval
 obtain ⟨v0, vs0, d0, ds0, p0, q0, hargs, rfl, rfl, h0, r0⟩ := trodAll_cons hA
 obtain ⟨rfl, rfl, rfl⟩ := trodAll_nil r0
 obtain rfl : args = #[v0] := by cases args; simp_all
 obtain ⟨so0, n0, cp0, B0, rfl, hl0, hr0, hB0⟩ := op_bytes (hval 0 22 v0 rfl rfl) h0
 obtain ⟨rfl, rfl⟩ := trodVars_none hV
 refine (laws_FnSailed so0 n0 cp0 B0 W hl0 hr0 hB0).mono fun e W1 ⟨he, hb⟩ => ⟨_, he, ?_⟩
 exact law_post Tryz.laidOut (by as_aux_lemma => kernel_rfl) Tryz.underlying4 rfl rfl hW' rfl rfl rfl hb
set_option maxHeartbeats 8000000 in
theorem FnSailed_closed : joinedFacts Tryz.prog 6 Tryz.f6 Rows.fnSailedSpec Rows.fnSailedRow = true := by
 simp only [joinedFacts, Bool.and_eq_true, Tryz.laidOut, Tryz.mapsRowed, Tryz.stopsNone, Tryz.stopKnobsNone, Tryz.plainKeysIs, Tryz.stopsHeardIs, Tryz.mayEnterIs, Tryz.liftsFinalIs, Tryz.makeIs, and_true]
 repeat' (with_reducible refine And.intro ?_ ?_)
 all_goals (as_aux_lemma => kernel_rfl)
set_option maxHeartbeats 8000000 in
/-- FnSailed: whatever the input, the law returns true, and the input reads as it did. -/
theorem FnSailed_row : Rows.FnSailedSaid :=
 OpenClaim.holds_of_wide 6 Tryz.f6 rfl rfl rfl rfl rfl rfl rfl ⟨rfl, rfl, rfl, rfl, rfl⟩ rfl rfl rfl rfl rfl (by as_aux_lemma => kernel_rfl) Tryz.func6
  FnSailed_closed
  (of_decide_eq_true (by as_aux_lemma => kernel_rfl)) (by unfold Func.isWrapper; rw [if_neg (of_decide_eq_false (by as_aux_lemma => kernel_rfl))]; exact ⟨rfl, rfl⟩)
  (fun os started H enc _ => FnSailed_lifted os started H enc)

set_option maxHeartbeats 8000000 in
/-- FnSailed: the tied card. -/
theorem FnSailed_holds : Rows.FnSailedCardSaid :=
 Claim7.holds_tied_plain_at .later [] [.data, .pinned] true (true, "ecc344695a176d2d207475dfdbbdb0fec1d7efab3067b4dfaa0c36aeb15b4ba9") false
  FnSailed_row (fun _ h => by cases h) (by as_aux_lemma => kernel_rfl) (fun _ h => by cases h) fnSailed_row_tie rfl ⟨rfl, rfl⟩ (by as_aux_lemma => kernel_rfl) rfl
  (fun f fn hf hfn => by
   obtain rfl : f = 6 := Option.some.inj ((show Tryz.prog.funcNamed Rows.fnSailedRow.func = some 6 by kernel_rfl).symm.trans hf) |>.symm
   obtain rfl : fn = Tryz.f6 := (Option.some.inj (Tryz.func6.symm.trans hfn)).symm
   exact ⟨by kernel_rfl, fun j t ht => by
    rw [Tryz.params6] at ht
    have hm : t ∈ [22] := by simpa using Array.mem_of_getElem? ht
    have hall : ([22].all fun u => !Tryz.prog.wantsStandIn u) = true := by kernel_rfl
    exact (show Tryz.prog.wantsStandIn t = false by simpa using List.all_eq_true.1 hall t hm)⟩)
  (by as_aux_lemma => kernel_rfl)
#print axioms FnSailed_holds
end Go.Proofs.YtgcdgdnmcdffoaaGreatDoor
