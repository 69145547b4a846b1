/- DistanceToNext of the program returns what the reference's returns, for every course, mark, track and a time. What the program's text lays in the library's table is all that the card takes. -/
import Derived.Test.YtlhllidkkjledaaGreatDoorXr
import Derived.Test.YtlhllidkkjledaaGreatDoorBs
import Derived.Test.YtlhllidkkjledaaGreatDoorCd
import Derived.Test.YtlhllidkkjledaaGreatDoorLaw
import Derived.Test.YtlhllidkkjledaaGreatDoorTie
import Derived.Test.YtlhllidkkjledaaGreatDoorCards
import Derived.Lay
import Derived.LaidMore
import Derived.OpenShut
import Derived.ChangeMaps5
import Derived.Stop.Joined
import Derived.SevenTiedAt
import Derived.Deep.DeepCutAuto
namespace Go.Proofs.YtlhllidkkjledaaGreatDoor
open Go.ChangeShapes Go.WideShapes Go.ChangeAt Go.RowKit

set_option maxRecDepth 100000 in
set_option maxHeartbeats 16000000 in
theorem laws_FnExactDistanceToNext (ax ay bx bY cx cy dx dy : Int) (so : Option Addr) (n cap : Nat) (N : Nat → ByteArray) (X Y S Z : Nat → Int) (so2 : Option Addr) (n2 cap2 : Nat) (T U V : Nat → Int) (t : Int) (w : World) (hl : n ≤ maxLen) (h : RowAt w so n 5 (v5 N X Y S Z)) (hN : ∀ i, (N i).size ≤ maxLen) (hl2 : n2 ≤ maxLen) (h2 : RowAt w so2 n2 3 (v3 T U V)) :
    Calls Tryz.prog 5 #[.agg #[.int .i64 ax, .int .i64 ay, .int .i64 bx, .int .i64 bY, .int .i64 cx, .int .i64 cy, .int .i64 dx, .int .i64 dy, .slice so n cap], .agg #[.slice so2 n2 cap2], .int .i64 t] w fun e w' => e = .returned (.bool true) ∧ Below w.heap.size w w' := by
  have KZ := hide (fun W (hb : Below w.heap.size w W) => laws_szCourse ax ay bx bY cx cy dx dy so n cap N X Y S Z 1048576 W (RowAt.later hb h) hN hl (by decide) (by decide))
  unfold maxLen at hl hl2
  have Hh := hide h
  have Hh2 := hide h2
  clear h h2 hN
  go_enter Tryz.func5, Tryz.ntmps5
  go_wp2_with fail; (with_reducible refine (KZ.out _ bwz).mono ?_); rintro e w1 ⟨x, rfl, hq, hb⟩; obtain ⟨hc, hf⟩ := bcell hb; have hz := hb.size; have z0 : w.heap.size < w1.heap.size := (by first | omega | (simp at hz; omega)); have z1 : w.heap.size + 1 < w1.heap.size := (by first | omega | (simp at hz; omega))
  rcases hq with rfl | ⟨k1, k2, k3⟩
  · go_wp2
    go_ret
    exact ⟨rfl, bwz⟩
  by_cases hn2 : (n2 : Int) ≤ x
  case neg =>
    go_wp2_with (go_at_call 10; (with_reducible refine (laws_szTrack_no so2 n2 cap2 _ _ (by omega) (by omega) (by omega)).mono ?_); rintro e w9 ⟨rfl, hb⟩; obtain ⟨hc, hf⟩ := bcell hb; have hz := hb.size; have z0 : w.heap.size < w9.heap.size := (by first | omega | (simp at hz; omega)); have z1 : w.heap.size + 1 < w9.heap.size := (by first | omega | (simp at hz; omega)))
    go_ret
    exact ⟨rfl, bwz⟩
  have hn : n ≤ 1048576 := by omega
  have hn3 : n2 ≤ 1048576 := by omega
  have HS := hide (fun W so cp so' cp' (hr : RowAt W so n 5 (v5 N X Y S Z)) (hr' : RowAt W so' n2 3 (v3 T U V)) => spec_DistanceToNext ax ay bx bY cx cy dx dy so n cp N X Y S Z so' n2 cp' T U V t W hr hn hr' hn3)
  have HI := hide (fun W so cp so' cp' (hr : RowAt W so n 5 (v5 N X Y S Z)) (hcp : n ≤ cp) (hr' : RowAt W so' n2 3 (v3 T U V)) => impl_DistanceToNext ax ay bx bY cx cy dx dy so n cp N X Y S Z so' n2 cp' T U V t W hr hn hcp hr' hn3)
  obtain ⟨r0, q0⟩ : ∃ x, x = dnV (tsC (isCo ax ay bx bY cx cy dx dy n N X Y S Z) (isTr n2 T U V) (lnsOk (lnA ax ay bx bY cx cy dx dy n X Y S Z) (lnB ax ay bx bY cx cy dx dy n X Y S Z) (lnC ax ay bx bY cx cy dx dy n X Y S Z) (lnD ax ay bx bY cx cy dx dy n X Y S Z) (n + 1))) (tsL (isCo ax ay bx bY cx cy dx dy n N X Y S Z) (isTr n2 T U V) (lnA ax ay bx bY cx cy dx dy n X Y S Z) (lnB ax ay bx bY cx cy dx dy n X Y S Z) (lnC ax ay bx bY cx cy dx dy n X Y S Z) (lnD ax ay bx bY cx cy dx dy n X Y S Z) n2 T U V n) n t (inB t (T 0) (T (n2 - 1))) (fun K => rt (sq (posX n2 T U t) (posX n2 T V t) (stA ((ax + bx) / 2) ((cx + dx) / 2) n X K) (stA ((ay + bY) / 2) ((cy + dy) / 2) n Y K))) := ⟨_, rfl⟩
  obtain ⟨cd, q1⟩ : ∃ x, x = dnC (tsC (isCo ax ay bx bY cx cy dx dy n N X Y S Z) (isTr n2 T U V) (lnsOk (lnA ax ay bx bY cx cy dx dy n X Y S Z) (lnB ax ay bx bY cx cy dx dy n X Y S Z) (lnC ax ay bx bY cx cy dx dy n X Y S Z) (lnD ax ay bx bY cx cy dx dy n X Y S Z) (n + 1))) (tsL (isCo ax ay bx bY cx cy dx dy n N X Y S Z) (isTr n2 T U V) (lnA ax ay bx bY cx cy dx dy n X Y S Z) (lnB ax ay bx bY cx cy dx dy n X Y S Z) (lnC ax ay bx bY cx cy dx dy n X Y S Z) (lnD ax ay bx bY cx cy dx dy n X Y S Z) n2 T U V n) n t (inB t (T 0) (T (n2 - 1))) := ⟨_, rfl⟩
  rw [← q0, ← q1] at HS HI
  clear q0 q1 KZ
  go_upto_region 8 with (go_at_call 10; (with_reducible refine (laws_szTrack_yes so2 n2 cap2 _ _ (by omega) (by omega)).mono ?_); rintro e w9 ⟨rfl, hb⟩; obtain ⟨hc, hf⟩ := bcell hb; have hz := hb.size; have z0 : w.heap.size < w9.heap.size := (by first | omega | (simp at hz; omega)); have z1 : w.heap.size + 1 < w9.heap.size := (by first | omega | (simp at hz; omega)))
  obtain ⟨wA, rfl⟩ : ∃ W : World, W = w9 := ⟨_, rfl⟩
  have a0 := hide (show CoAt wA w.heap.size ax ay bx bY cx cy dx dy so n cap from ⟨by go_simp, by go_simp, by go_simp, by go_simp, by go_simp, by go_simp, by go_simp, by go_simp, by go_simp⟩)
  have a3 : wA.cell? ⟨w.heap.size + 1, 0, none⟩ = some (.slice so2 n2 cap2) := by go_simp
  have HA := hide (show Below w.heap.size w wA from bwz)
  have HhA := hide (RowAt.later HA.out Hh.out)
  have HkA := hide (RowAt.later HA.out Hh2.out)
  have zA0 : w.heap.size < wA.heap.size := by have := hz; omega
  have zA1 : w.heap.size + 1 < wA.heap.size := by have := hz; omega
  clear hb hc hf hz z0 z1 k1 k2 k3
  go_cut [8, 9] (fun s1 s2 W => s1 = .int .i64 r0 ∧ s2 = .int .i64 cd ∧ Below wA.heap.size wA W)
  case first =>
    obtain ⟨o0, o1, o2, o3, o4, o5, o6, o7, o8⟩ := a0.out
    refine wp_region_held_drew (S := fun W => Below wA.heap.size wA W) (by kernel_rfl) (Below.drew (Below.refl _ _)) (fun hHeld => ?_)
    refine tkL 0 (some 25) rfl ?_; (try simp only [pz])
    refine tkL 2 (some 27) rfl ?_; (try simp only [pz])
    refine tkN 4 (some 29) rfl ?_; (try simp only [pz])
    refine wpAnyH_ready (rs := [1]) (by kernel_rfl) (by simp) ?_; refine (AllReadyH.cons (o := ⟨some 26, _, _, _, _, _⟩) rfl (fun K hK => ?_) AllReadyH.nil)
    go_simp; (first | (go_at_call 12; (with_reducible refine (laws_toCourse ax ay bx bY cx cy dx dy so n cap N X Y S Z _ (RowAt.later bwz HhA.out) hn).mono ?_); rintro e w9 ⟨gc, rfl, hrow, hmine, hge, hgl, hb⟩; have Hgc := hide hrow; clear hrow hmine hge hgl; obtain ⟨hc, hf⟩ := bcell hb; have hzq := hb.size; (try simp at hzq)) | (go_at_call 13; (with_reducible refine (laws_toTrack so2 n2 cap2 T U V _ (RowAt.later bwz HkA.out) hn3).mono ?_); rintro e w9 ⟨gt, rfl, hrow, hmine, hge, hgl, hb⟩; have Hgt := hide hrow; clear hrow hmine hge hgl; obtain ⟨hc, hf⟩ := bcell hb; have hzq := hb.size; (try simp at hzq)) | (go_at_call 24; (with_reducible refine (HS.out _ _ _ _ _ (RowAt.later (by first | with_reducible assumption | with_reducible exact Below.refl _ _ | exact bwz) Hgc.out) (RowAt.later (by first | with_reducible assumption | with_reducible exact Below.refl _ _ | exact bwz) Hgt.out)).mono ?_); rintro e w9 ⟨rfl, hb⟩; obtain ⟨hc, hf⟩ := bcell hb))
    all_goals (try go_wp2_with fail)
    refine hK.out _ _ ?_ (fun hH2 => ?_)
    · first | exact bstep hHeld hb | exact hHeld.trans hb | exact hHeld
    clear hK K hHeld; (have hHeld := hH2); clear hH2; (try simp only [pz])
    refine wpAnyH_ready (rs := [3]) (by kernel_rfl) (by simp) ?_; refine (AllReadyH.cons (o := ⟨some 28, _, _, _, _, _⟩) rfl (fun K hK => ?_) AllReadyH.nil)
    go_simp; (first | (go_at_call 12; (with_reducible refine (laws_toCourse ax ay bx bY cx cy dx dy so n cap N X Y S Z _ (RowAt.later bwz HhA.out) hn).mono ?_); rintro e w9 ⟨gc, rfl, hrow, hmine, hge, hgl, hb⟩; have Hgc := hide hrow; clear hrow hmine hge hgl; obtain ⟨hc, hf⟩ := bcell hb; have hzq := hb.size; (try simp at hzq)) | (go_at_call 13; (with_reducible refine (laws_toTrack so2 n2 cap2 T U V _ (RowAt.later bwz HkA.out) hn3).mono ?_); rintro e w9 ⟨gt, rfl, hrow, hmine, hge, hgl, hb⟩; have Hgt := hide hrow; clear hrow hmine hge hgl; obtain ⟨hc, hf⟩ := bcell hb; have hzq := hb.size; (try simp at hzq)) | (go_at_call 24; (with_reducible refine (HS.out _ _ _ _ _ (RowAt.later (by first | with_reducible assumption | with_reducible exact Below.refl _ _ | exact bwz) Hgc.out) (RowAt.later (by first | with_reducible assumption | with_reducible exact Below.refl _ _ | exact bwz) Hgt.out)).mono ?_); rintro e w9 ⟨rfl, hb⟩; obtain ⟨hc, hf⟩ := bcell hb))
    all_goals (try go_wp2_with fail)
    refine hK.out _ _ ?_ (fun hH2 => ?_)
    · first | exact bstep hHeld hb | exact hHeld.trans hb | exact hHeld
    clear hK K hHeld; (have hHeld := hH2); clear hH2; (try simp only [pz])
    refine wpAnyH_ready (rs := [5]) (by kernel_rfl) (by simp) ?_; refine (AllReadyH.cons (o := ⟨some 30, _, _, _, _, _⟩) rfl (fun K hK => ?_) AllReadyH.nil)
    go_simp; (first | (go_at_call 12; (with_reducible refine (laws_toCourse ax ay bx bY cx cy dx dy so n cap N X Y S Z _ (RowAt.later bwz HhA.out) hn).mono ?_); rintro e w9 ⟨gc, rfl, hrow, hmine, hge, hgl, hb⟩; have Hgc := hide hrow; clear hrow hmine hge hgl; obtain ⟨hc, hf⟩ := bcell hb; have hzq := hb.size; (try simp at hzq)) | (go_at_call 13; (with_reducible refine (laws_toTrack so2 n2 cap2 T U V _ (RowAt.later bwz HkA.out) hn3).mono ?_); rintro e w9 ⟨gt, rfl, hrow, hmine, hge, hgl, hb⟩; have Hgt := hide hrow; clear hrow hmine hge hgl; obtain ⟨hc, hf⟩ := bcell hb; have hzq := hb.size; (try simp at hzq)) | (go_at_call 24; (with_reducible refine (HS.out _ _ _ _ _ (RowAt.later (by first | with_reducible assumption | with_reducible exact Below.refl _ _ | exact bwz) Hgc.out) (RowAt.later (by first | with_reducible assumption | with_reducible exact Below.refl _ _ | exact bwz) Hgt.out)).mono ?_); rintro e w9 ⟨rfl, hb⟩; obtain ⟨hc, hf⟩ := bcell hb))
    all_goals (try go_wp2_with fail)
    refine hK.out _ _ ?_ (fun hH2 => ?_)
    · first | exact bstep hHeld hb | exact hHeld.trans hb | exact hHeld
    clear hK K hHeld; (have hHeld := hH2); clear hH2; (try simp only [pz])
    refine tkN 6 (some 24) rfl ?_; (try simp only [pz])
    refine tkN 7 (some 31) rfl ?_; (try simp only [pz])
    refine tkN 8 (some 32) rfl ?_; (try simp only [pz])
    refine tkN 9 (some 8) rfl ?_; (try simp only [pz])
    refine tkN 10 (some 9) rfl ?_; (try simp only [pz])
    refine wpAnyH_done (by kernel_rfl) ?_ _; (try simp only [pz])
    go_wp2_with fail
    go_meet
    exact ⟨rfl, rfl, hHeld⟩
  case rest =>
  obtain ⟨rfl, rfl, rB⟩ := hcut
  obtain ⟨wB, rfl⟩ : ∃ W : World, W = wc := ⟨_, rfl⟩
  have b0 := hide (CoAt.later rB a0.out)
  have b3' := cell_later rB a3
  have HB := hide (bstep HA.out rB)
  have HhB := hide (RowAt.later HB.out Hh.out)
  have sB := rB.size
  have sB0 : w.heap.size < wB.heap.size := by omega
  have sB1 : w.heap.size + 1 < wB.heap.size := by omega
  clear a0 a3 rB HA HhA HkA zA0 zA1
  go_upto_region 9 with fail
  go_cut [10] (fun s14 W => ∃ gx g1 : Nat, s14 = .pointer (some ⟨gx, 0, none⟩) ∧ CoAt W gx ax ay bx bY cx cy dx dy (some ⟨g1, 0, none⟩) n n ∧ RowAt W (some ⟨g1, 0, none⟩) n 5 (v5 N X Y S Z) ∧ gx < W.heap.size ∧ Below wB.heap.size wB W)
  case first =>
    obtain ⟨o0, o1, o2, o3, o4, o5, o6, o7, o8⟩ := b0.out
    go_wp2_with (go_at_call 12; (with_reducible refine (laws_toCourse ax ay bx bY cx cy dx dy so n cap N X Y S Z _ (RowAt.later bwz HhB.out) hn).mono ?_); rintro e w9 ⟨gt2, rfl, hrow, hmine, hge, hgl, hb⟩; have Hrow := hide hrow; clear hrow hmine)
    go_meet
    exact ⟨w9.heap.size, gt2, rfl, ⟨by go_simp, by go_simp, by go_simp, by go_simp, by go_simp, by go_simp, by go_simp, by go_simp, by go_simp⟩, Hrow.out.later (Below.alloc (Below.refl _ _) (Nat.le_refl _) _), by simp, bwz⟩
  case rest =>
  obtain ⟨gx, g1, rfl, c3', hrow1, q3, hBC⟩ := hcut
  obtain ⟨wC, rfl⟩ : ∃ W : World, W = wc := ⟨_, rfl⟩
  have c3' := hide c3'
  have Hrow1 := hide hrow1
  have d0 := hide (CoAt.later hBC b0.out)
  have d3 := cell_later hBC b3'
  have HC := hide (bstep HB.out hBC)
  have HkC := hide (RowAt.later HC.out Hh2.out)
  have sC := hBC.size
  have sC0 : w.heap.size < wC.heap.size := by omega
  have sC1 : w.heap.size + 1 < wC.heap.size := by omega
  clear b0 b3' hBC hrow1 HB HhB sB0 sB1
  go_upto_region 10 with fail
  go_cut [11] (fun s14 W => ∃ gy g3 : Nat, s14 = .pointer (some ⟨gy, 0, none⟩) ∧ W.cell? ⟨gy, 0, none⟩ = some (.slice (some ⟨g3, 0, none⟩) n2 n2) ∧ RowAt W (some ⟨g3, 0, none⟩) n2 3 (v3 T U V) ∧ gy < W.heap.size ∧ Below wC.heap.size wC W)
  case first =>
    go_wp2_with (go_at_call 13; (with_reducible refine (laws_toTrack so2 n2 cap2 T U V _ (RowAt.later bwz HkC.out) hn3).mono ?_); rintro e w9 ⟨gt2, rfl, hrow, hmine, hge, hgl, hb⟩; have Hrow := hide hrow; clear hrow hmine)
    go_meet
    exact ⟨w9.heap.size, gt2, rfl, by go_simp, Hrow.out.later (Below.alloc (Below.refl _ _) (Nat.le_refl _) _), by simp, bwz⟩
  case rest =>
  obtain ⟨gy, g3, rfl, c4', hrow3, q4, hCC⟩ := hcut
  obtain ⟨wX, rfl⟩ : ∃ W : World, W = wc := ⟨_, rfl⟩
  have Hrow3 := hide hrow3
  have Hrow1X := hide (RowAt.later hCC Hrow1.out)
  have x0 := hide (CoAt.later hCC d0.out)
  have x3 := cell_later hCC d3
  have x4 := hide (CoAt.later hCC c3'.out)
  have HX := hide (bstep HC.out hCC)
  have sX := hCC.size
  have sX0 : w.heap.size < wX.heap.size := by omega
  have sX1 : w.heap.size + 1 < wX.heap.size := by omega
  have sX3 : gx < wX.heap.size := by omega
  clear d0 d3 c3' hCC hrow3 Hrow1 HC HkC sC0 sC1 q3
  go_upto_region 11 with fail
  go_cut [12, 13] (fun s1 s2 W => s1 = .int .i64 r0 ∧ s2 = .int .i64 cd ∧ Below wX.heap.size wX W)
  case first =>
    obtain ⟨o0, o1, o2, o3, o4, o5, o6, o7, o8⟩ := x4.out
    go_wp2_with (go_at_call 25; (with_reducible refine (HI.out _ _ _ _ _ Hrow1X.out (Nat.le_refl _) Hrow3.out).mono ?_); rintro e w9 ⟨rfl, hb⟩)
    go_meet
    exact ⟨rfl, rfl, hb⟩
  case rest =>
  obtain ⟨rfl, rfl, rD⟩ := hcut
  obtain ⟨wD, rfl⟩ : ∃ W : World, W = wc := ⟨_, rfl⟩
  have e0 := hide (CoAt.later rD x0.out)
  have e3 := cell_later rD x3
  have e4 := hide (CoAt.later rD x4.out)
  have e5 := cell_later rD c4'
  have HD := hide (bstep HX.out rD)
  have Hr1 := hide (RowAt.later rD Hrow1X.out)
  have Hr3 := hide (RowAt.later rD Hrow3.out)
  have HhD := hide (RowAt.later HD.out Hh.out)
  have sD := rD.size
  have sD0 : w.heap.size < wD.heap.size := by omega
  have sD1 : w.heap.size + 1 < wD.heap.size := by omega
  have sD3 : gx < wD.heap.size := by omega
  have sD4 : gy < wD.heap.size := by omega
  clear x0 x3 x4 c4' rD HX Hrow1X Hrow3 sX0 sX1 sX3 q4
  go_upto_region 14 with fail
  have We0 := e0
  have We4 := e4
  obtain ⟨o0, o1, o2, o3, o4, o5, o6, o7, o8⟩ := e0.out
  obtain ⟨p0, p1, p2, p3, p4, p5, p6, p7, p8⟩ := e4.out
  refine wp_region_held_drew (S := fun W => Below wD.heap.size wD W) (by kernel_rfl) (Below.drew (Below.refl _ _)) (fun hHeld => ?_)
  refine tkL 0 (some 52) rfl ?_; (try simp only [pz])
  refine tkL 1 (some 53) rfl ?_; (try simp only [pz])
  refine wpAnyH_ready (rs := [2]) (by kernel_rfl) (by simp) ?_; refine (AllReadyH.cons (o := ⟨some 54, _, _, _, _, _⟩) rfl (fun K hK => ?_) AllReadyH.nil)
  go_simp; (first | (go_at_call 12; (with_reducible refine (laws_toCourse ax ay bx bY cx cy dx dy so n cap N X Y S Z _ (RowAt.later bwz HhD.out) hn).mono ?_); rintro e w9 ⟨gc, rfl, hrow, hmine, hge, hgl, hb⟩; have Hgc := hide hrow; clear hrow hmine hge hgl; obtain ⟨hc, hf⟩ := bcell hb; have hzq := hb.size; (try simp at hzq)) | (go_at_call 16; (with_reducible refine (laws_eqCourse ax ay bx bY cx cy dx dy _ _ n _ _ N X Y S Z _ (RowAt.later (show Below wD.heap.size wD _ from hHeld) Hr1.out) (RowAt.later (by first | with_reducible assumption | with_reducible exact Below.refl _ _ | exact bwz) Hgc.out) hn).mono ?_); rintro e w9 ⟨rfl, hb⟩; obtain ⟨hc, hf⟩ := bcell hb))
  all_goals (try go_wp2_with fail)
  refine hK.out _ _ ?_ (fun hH2 => ?_)
  · first | exact bstep hHeld hb | exact hHeld.trans hb | exact hHeld
  clear hK K hHeld; (have hHeld := hH2); clear hH2; (try simp only [pz])
  refine wpAnyH_ready (rs := [3]) (by kernel_rfl) (by simp) ?_; refine (AllReadyH.cons (o := ⟨some 55, _, _, _, _, _⟩) rfl (fun K hK => ?_) AllReadyH.nil)
  go_simp; (first | (go_at_call 12; (with_reducible refine (laws_toCourse ax ay bx bY cx cy dx dy so n cap N X Y S Z _ (RowAt.later bwz HhD.out) hn).mono ?_); rintro e w9 ⟨gc, rfl, hrow, hmine, hge, hgl, hb⟩; have Hgc := hide hrow; clear hrow hmine hge hgl; obtain ⟨hc, hf⟩ := bcell hb; have hzq := hb.size; (try simp at hzq)) | (go_at_call 16; (with_reducible refine (laws_eqCourse ax ay bx bY cx cy dx dy _ _ n _ _ N X Y S Z _ (RowAt.later (show Below wD.heap.size wD _ from hHeld) Hr1.out) (RowAt.later (by first | with_reducible assumption | with_reducible exact Below.refl _ _ | exact bwz) Hgc.out) hn).mono ?_); rintro e w9 ⟨rfl, hb⟩; obtain ⟨hc, hf⟩ := bcell hb))
  all_goals (try go_wp2_with fail)
  refine hK.out _ _ ?_ (fun hH2 => ?_)
  · first | exact bstep hHeld hb | exact hHeld.trans hb | exact hHeld
  clear hK K hHeld; (have hHeld := hH2); clear hH2; (try simp only [pz])
  refine tkN 4 (some 56) rfl ?_; (try simp only [pz])
  refine wpAnyH_done (by kernel_rfl) ?_ _; (try simp only [pz])
  obtain ⟨wE, rfl⟩ : ∃ W : World, W = w9 := ⟨_, rfl⟩
  have HE := hide (bstep HD.out hHeld)
  have f3 := cell_later hHeld e3
  have f5 := cell_later hHeld e5
  have HhE := hide (RowAt.later HE.out Hh2.out)
  have Hr3E := hide (RowAt.later hHeld Hr3.out)
  have sE := hHeld.size
  have sE1 : w.heap.size + 1 < wE.heap.size := by omega
  have sE4 : gy < wE.heap.size := by omega
  clear o0 o1 o2 o3 o4 o5 o6 o7 o8 p0 p1 p2 p3 p4 p5 p6 p7 p8 e0 e3 e4 e5 We0 We4 hHeld hb hc hf
  go_upto_region 16 with fail
  refine wp_region_held_drew (S := fun W => Below wE.heap.size wE W) (by kernel_rfl) (Below.drew (Below.refl _ _)) (fun hHeld => ?_)
  refine tkL 0 (some 57) rfl ?_; (try simp only [pz])
  refine tkL 1 (some 58) rfl ?_; (try simp only [pz])
  refine wpAnyH_ready (rs := [2]) (by kernel_rfl) (by simp) ?_; refine (AllReadyH.cons (o := ⟨some 59, _, _, _, _, _⟩) rfl (fun K hK => ?_) AllReadyH.nil)
  go_simp; (first | (go_at_call 13; (with_reducible refine (laws_toTrack so2 n2 cap2 T U V _ (RowAt.later bwz HhE.out) hn3).mono ?_); rintro e w9 ⟨gt, rfl, hrow, hmine, hge, hgl, hb⟩; have Hgt := hide hrow; clear hrow hmine hge hgl; obtain ⟨hc, hf⟩ := bcell hb; have hzq := hb.size; (try simp at hzq)) | (go_at_call 17; (with_reducible refine (laws_eqTrack _ _ n2 _ _ T U V _ (RowAt.later (show Below wE.heap.size wE _ from hHeld) Hr3E.out) (RowAt.later (by first | with_reducible assumption | with_reducible exact Below.refl _ _ | exact bwz) Hgt.out) hn3).mono ?_); rintro e w9 ⟨rfl, hb⟩; obtain ⟨hc, hf⟩ := bcell hb))
  all_goals (try go_wp2_with fail)
  refine hK.out _ _ ?_ (fun hH2 => ?_)
  · first | exact bstep hHeld hb | exact hHeld.trans hb | exact hHeld
  clear hK K hHeld; (have hHeld := hH2); clear hH2; (try simp only [pz])
  refine wpAnyH_ready (rs := [3]) (by kernel_rfl) (by simp) ?_; refine (AllReadyH.cons (o := ⟨some 60, _, _, _, _, _⟩) rfl (fun K hK => ?_) AllReadyH.nil)
  go_simp; (first | (go_at_call 13; (with_reducible refine (laws_toTrack so2 n2 cap2 T U V _ (RowAt.later bwz HhE.out) hn3).mono ?_); rintro e w9 ⟨gt, rfl, hrow, hmine, hge, hgl, hb⟩; have Hgt := hide hrow; clear hrow hmine hge hgl; obtain ⟨hc, hf⟩ := bcell hb; have hzq := hb.size; (try simp at hzq)) | (go_at_call 17; (with_reducible refine (laws_eqTrack _ _ n2 _ _ T U V _ (RowAt.later (show Below wE.heap.size wE _ from hHeld) Hr3E.out) (RowAt.later (by first | with_reducible assumption | with_reducible exact Below.refl _ _ | exact bwz) Hgt.out) hn3).mono ?_); rintro e w9 ⟨rfl, hb⟩; obtain ⟨hc, hf⟩ := bcell hb))
  all_goals (try go_wp2_with fail)
  refine hK.out _ _ ?_ (fun hH2 => ?_)
  · first | exact bstep hHeld hb | exact hHeld.trans hb | exact hHeld
  clear hK K hHeld; (have hHeld := hH2); clear hH2; (try simp only [pz])
  refine tkN 4 (some 61) rfl ?_; (try simp only [pz])
  refine wpAnyH_done (by kernel_rfl) ?_ _; (try simp only [pz])
  go_wp2
  go_ret
  exact ⟨rfl, bstep HE.out hHeld⟩

set_option maxRecDepth 100000 in
theorem FnExactDistanceToNext_lifted (os : Os) (started : os.Started) (H : Type) (enc : TypeId × Value → H) :
    ReturnsInHanded {} Tryz.checked os 5 .any (fun w args => (Rows.fnExactDistanceToNextSpec.pre enc Tryz.prog Tryz.f5 [] false w args ∧ laidMetH Tryz.prog Rows.fnExactDistanceToNextRow.laid w) ∧ sizedMet enc Tryz.prog Tryz.f5 (OpenSpec.ofChange Rows.fnExactDistanceToNextSpec) false w args) (Rows.fnExactDistanceToNextSpec.post enc Tryz.prog Tryz.f5 false true false false) := by
  refine returnsInHanded_of_change_and (C := Tryz.checked) (X := fun w _ => laidMetH Tryz.prog Rows.fnExactDistanceToNextRow.laid w) (fun _ _ _ hh h => h.of_heap hh) Tryz.own started (by as_aux_lemma => kernel_rfl) Tryz.func5
    (ChangeSpec.witness_shaped (enc := enc) (C := Tryz.checked) (os := os) (X := fun w _ => laidMetH Tryz.prog Rows.fnExactDistanceToNextRow.laid w) false (World.laidAll Tryz.prog os Rows.fnExactDistanceToNextRow.laid) #[.agg #[.int .i64 0, .int .i64 0, .int .i64 0, .int .i64 0, .int .i64 0, .int .i64 0, .int .i64 0, .int .i64 0, .slice none 0 0], .agg #[.slice none 0 0], .int .i64 0] 8 (World.laidAll_os _ _ _) (World.shaped_of_ZipB (by as_aux_lemma => kernel_rfl) (by as_aux_lemma => kernel_rfl)) (by as_aux_lemma => kernel_rfl) (by as_aux_lemma => kernel_rfl) (by as_aux_lemma => kernel_rfl) (by rw [MakeChecks.laidMetH_plain _ _ _ (by as_aux_lemma => kernel_rfl)]; exact laidMet_laidAll _ (by as_aux_lemma => kernel_rfl) (by as_aux_lemma => kernel_rfl))) ?_
  intro W base args ds gs before hval0 hW _ _ hL _
  have hval : ∀ (j : Nat) t v, Tryz.f5.params[j]? = some t → args[j]? = some v → Value.okWide Tryz.prog W .any base t v := hval0
  have hW' := hW
  obtain ⟨p, q, hA0, hV, rfl, _, _⟩ := hW
  have hA : DataW.TrodAll enc Tryz.prog W 0 (fun _ => true) true Tryz.f5.params.toList args.toList ds p := hA0
  rw [Tryz.params5] at hA hval
  obtain ⟨v0, vs0, d0, ds0, p0, q0, hargs, rfl, rfl, h0, r0⟩ := trodAll_cons hA
  obtain ⟨v1, vs1, d1, ds1, p1, q1, rfl, rfl, rfl, h1, r1⟩ := trodAll_cons r0
  obtain ⟨v2, vs2, d2, ds2, p2, q2, rfl, rfl, rfl, h2, r2⟩ := trodAll_cons r1
  obtain ⟨rfl, rfl, rfl⟩ := trodAll_nil r2
  obtain rfl : args = #[v0, v1, v2] := by cases args; simp_all
  obtain ⟨ax0, ay0, bx0, bY0, cx0, cy0, dx0, dy0, so0, n0, cp0, N0, X0, Y0, S0, Z0, rfl, hl0, hr0, hN0⟩ := op_course (hval 0 28 v0 rfl rfl) h0
  obtain ⟨so1, n1, cp1, T1, X1, Y1, rfl, hl1, hr1⟩ := op_track (hval 1 31 v1 rfl rfl) h1
  obtain ⟨a2, rfl, _, _, _⟩ := open_int Tryz.underlying2 (hval 2 2 v2 rfl rfl) h2
  obtain ⟨rfl, rfl⟩ := trodVars_none hV
  refine (laws_FnExactDistanceToNext ax0 ay0 bx0 bY0 cx0 cy0 dx0 dy0 so0 n0 cp0 N0 X0 Y0 S0 Z0 so1 n1 cp1 T1 X1 Y1 a2 W hl0 hr0 hN0 hl1 hr1).mono fun e W1 ⟨he, hb⟩ => ⟨_, he, ?_⟩
  exact law_post Tryz.laidOut (by as_aux_lemma => kernel_rfl) Tryz.underlying4 rfl rfl hW' rfl rfl rfl hb
set_option maxHeartbeats 8000000 in
theorem FnExactDistanceToNext_closed : joinedFacts Tryz.prog 5 Tryz.f5 Rows.fnExactDistanceToNextSpec Rows.fnExactDistanceToNextRow = true := by
  simp only [joinedFacts, Bool.and_eq_true, Tryz.laidOut, Tryz.mapsRowed, Tryz.stopsNone, Tryz.stopKnobsNone, Tryz.plainKeysIs, Tryz.stopsHeardIs, Tryz.mayEnterIs, Tryz.liftsFinalIs, Tryz.makeIs, and_true, true_and]
  repeat' (with_reducible refine And.intro ?_ ?_)
  all_goals (as_aux_lemma => kernel_rfl)
set_option maxHeartbeats 8000000 in
/-- FnExactDistanceToNext: whatever the input, the law returns true, and the input reads as it did. -/
theorem FnExactDistanceToNext_row : Rows.FnExactDistanceToNextSaid :=
  OpenClaim.holds_of_wide 5 Tryz.f5 rfl rfl rfl rfl rfl rfl rfl ⟨rfl, rfl, rfl, rfl, rfl⟩ rfl rfl rfl rfl rfl (by as_aux_lemma => kernel_rfl) Tryz.func5
    FnExactDistanceToNext_closed
    (of_decide_eq_true (by as_aux_lemma => kernel_rfl)) (by unfold Func.isWrapper; rw [if_neg (of_decide_eq_false (by as_aux_lemma => kernel_rfl))]; exact ⟨rfl, rfl⟩)
    (fun os started H enc _ => FnExactDistanceToNext_lifted os started H enc)

set_option maxHeartbeats 8000000 in
/-- FnExactDistanceToNext: the tied card. -/
theorem FnExactDistanceToNext_holds : Rows.FnExactDistanceToNextCardSaid :=
  Claim7.holds_tied_plain_at .later [] [.data, .pinned] true (true, "9a2dcc0a57a5abead947a61da1be33c7cfa3b5f2fdefc6b895eb063848c4a931") false
    FnExactDistanceToNext_row (fun _ h => by cases h) (by as_aux_lemma => kernel_rfl) (fun _ h => by cases h) fnExactDistanceToNext_row_tie rfl ⟨rfl, rfl⟩ (by as_aux_lemma => kernel_rfl) rfl
    (fun f fn hf hfn => by
      obtain rfl : f = 5 := Option.some.inj ((show Tryz.prog.funcNamed Rows.fnExactDistanceToNextRow.func = some 5 by kernel_rfl).symm.trans hf) |>.symm
      obtain rfl : fn = Tryz.f5 := (Option.some.inj (Tryz.func5.symm.trans hfn)).symm
      exact ⟨by kernel_rfl, fun j t ht => by
        rw [Tryz.params5] at ht
        have hm : t ∈ [28, 31, 2] := by simpa using Array.mem_of_getElem? ht
        have hall : ([28, 31, 2].all fun u => !Tryz.prog.wantsStandIn u) = true := by kernel_rfl
        exact (show Tryz.prog.wantsStandIn t = false by simpa using List.all_eq_true.1 hall t hm)⟩)
    (by as_aux_lemma => kernel_rfl)
#print axioms FnExactDistanceToNext_holds
end Go.Proofs.YtlhllidkkjledaaGreatDoor
