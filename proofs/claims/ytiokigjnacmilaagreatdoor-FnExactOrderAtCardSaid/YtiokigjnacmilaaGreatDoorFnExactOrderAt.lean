/- OrderAt of the program returns what the reference's returns, in memory of its own, for every course, list of tracks and what goes with them. What the program's text lays in the library's table is all that the card takes. -/
import Derived.Test.YtiokigjnacmilaaGreatDoorOa
import Derived.Test.YtiokigjnacmilaaGreatDoorKy
import Derived.Test.YtiokigjnacmilaaGreatDoorMk
import Derived.Test.YtiokigjnacmilaaGreatDoorBs
import Derived.Test.YtiokigjnacmilaaGreatDoorCd
import Derived.Test.YtiokigjnacmilaaGreatDoorLaw
import Derived.Test.YtiokigjnacmilaaGreatDoorTie
import Derived.Test.YtiokigjnacmilaaGreatDoorCards
import Derived.Lay
import Derived.LaidMore
import Derived.OpenShut
import Derived.ChangeMaps5
import Derived.Stop.Joined
import Derived.SevenTiedAt
import Derived.Deep.DeepCutAuto
namespace Go.Proofs.YtiokigjnacmilaaGreatDoor
open Go.ChangeShapes Go.WideShapes Go.ChangeAt Go.RowKit

theorem CoAt.below {w W : World} {B b : Nat} {ax ay bx bY cx cy dx dy : Int} {so : Option Addr} {n cap : Nat} (hb : Below B w W) (hB : b < B) (h : CoAt w b ax ay bx bY cx cy dx dy so n cap) : CoAt W b ax ay bx bY cx cy dx dy so n cap := by
  obtain ⟨h0, h1, h2, h3, h4, h5, h6, h7, h8⟩ := h
  exact ⟨cell_below hb hB h0, cell_below hb hB h1, cell_below hb hB h2, cell_below hb hB h3, cell_below hb hB h4, cell_below hb hB h5, cell_below hb hB h6, cell_below hb hB h7, cell_below hb hB h8⟩
theorem oaL_le {F : Nat → List Int} {t : Int} {m : Nat} {z : Int} : (oaL F t m (oaC m z)).length ≤ 16 := by
  unfold oaL
  split
  · rename_i h
    rw [srtL_len]
    unfold oaC at h
    split at h
    · omega
    · omega
  · exact Nat.zero_le _
set_option maxRecDepth 100000 in
set_option maxHeartbeats 16000000 in
theorem laws_FnExactOrderAt (ax ay bx bY cx cy dx dy : Int) (so : Option Addr) (n cap : Nat) (N : Nat → ByteArray) (X Y S Z : Nat → Int) (so2 : Option Addr) (m cap2 : Nat) (A : Nat → Option Addr) (nn C : Nat → Nat) (T U V : Nat → Nat → Int) (t : Int) (w : World) (hl : n ≤ maxLen) (h : RowAt w so n 5 (v5 N X Y S Z)) (hN : ∀ i, (N i).size ≤ maxLen) (hl2 : m ≤ maxLen) (h2 : Trs w so2 m A nn C T U V) (hnn : ∀ i, nn i ≤ maxLen) :
    Calls Tryz.prog 3 #[.agg #[.int .i64 ax, .int .i64 ay, .int .i64 bx, .int .i64 bY, .int .i64 cx, .int .i64 cy, .int .i64 dx, .int .i64 dy, .slice so n cap], .slice so2 m cap2, .int .i64 t] w fun e w' => e = .returned (.bool true) ∧ Below w.heap.size w w' := by
  have KZ := hide (fun W (hb : Below w.heap.size w W) => laws_szCourse ax ay bx bY cx cy dx dy so n cap N X Y S Z 1048576 W (RowAt.later hb h) hN hl (by decide) (by decide))
  have KY := hide (fun W x (hb : Below w.heap.size w W) h0 h1 => laws_szTrackS so2 m cap2 A nn C T U V x W (Trs.later hb h2) (Nat.le_trans hl2 (by decide)) (fun i => Nat.le_trans (hnn i) (by decide)) h0 h1)
  unfold maxLen at hl hl2
  have Hh := hide h
  have Hh2 := hide h2
  clear h h2 hN hnn
  go_enter Tryz.func3, Tryz.ntmps3
  go_wp2_with fail; (with_reducible refine (KZ.out _ bwz).mono ?_); rintro e w1 ⟨x, rfl, hq, hb⟩; obtain ⟨hc, hf⟩ := bcell hb; have hz := hb.size; have z0 : w.heap.size < w1.heap.size := (by first | omega | (simp at hz; omega))
  have HB1 := hide (show Below w.heap.size w w1 from bwz)
  rcases hq with rfl | ⟨k1, k2, k3⟩
  · go_wp2
    go_ret
    exact ⟨rfl, HB1.out⟩
  have k4 : ¬ x < 0 := by omega
  go_wp2_with fail; (with_reducible refine (KY.out _ x HB1.out (by omega) (by omega)).mono ?_); rintro e wA ⟨⟨x2, rfl, hq⟩, hb2⟩
  have a0 := hide (show CoAt wA (w.heap.size) ax ay bx bY cx cy dx dy so n cap from ⟨cell_later hb2 (by go_simp), cell_later hb2 (by go_simp), cell_later hb2 (by go_simp), cell_later hb2 (by go_simp), cell_later hb2 (by go_simp), cell_later hb2 (by go_simp), cell_later hb2 (by go_simp), cell_later hb2 (by go_simp), cell_later hb2 (by go_simp)⟩)
  have HA := hide (bstep HB1.out hb2)
  rcases hq with rfl | ⟨q1, q2, q3, q4⟩
  · go_wp2
    go_ret
    exact ⟨rfl, HA.out⟩
  have q5 : ¬ x2 < 0 := by omega
  have hn : n ≤ 1048576 := by omega
  have HS := hide (fun W so cp so' cp' A' C' (hr : RowAt W so n 5 (v5 N X Y S Z)) (hr' : Trs W so' m A' nn C' T U V) => spec_OrderAt ax ay bx bY cx cy dx dy so n cp N X Y S Z so' m cp' A' nn C' T U V t W hr hn hr' q3 q4)
  have HI := hide (fun W so cp so' cp' A' C' (hr : RowAt W so n 5 (v5 N X Y S Z)) (hcp : n ≤ cp) (hr' : Trs W so' m A' nn C' T U V) => impl_OrderAt ax ay bx bY cx cy dx dy so n cp N X Y S Z so' m cp' A' nn C' T U V t W hr hn hcp hr' q3 q4)
  have HC := hide (fun W (hb : Below w.heap.size w W) => laws_toCourse ax ay bx bY cx cy dx dy so n cap N X Y S Z W (RowAt.later hb Hh.out) hn)
  have HT := hide (fun W (hb : Below w.heap.size w W) => laws_toTrackS_m so2 m cap2 A nn C T U V W (Trs.later hb Hh2.out) q3 q4)
  have HQ := hide (fun W s1 c1 s2 c2 A1 A2 C1 C2 (r1 : Trs W s1 m A1 nn C1 T U V) (r2 : Trs W s2 m A2 nn C2 T U V) => laws_eqTrackS s1 s2 m c1 c2 A1 A2 nn C1 C2 T U V W r1 r2 q3 q4)
  have Q4 := hide q4
  have HLn := oaL_le (F := (fun j => (tmS (lnA ax ay bx bY cx cy dx dy n X Y S Z) (lnB ax ay bx bY cx cy dx dy n X Y S Z) (lnC ax ay bx bY cx cy dx dy n X Y S Z) (lnD ax ay bx bY cx cy dx dy n X Y S Z) (T j) (U j) (V j) (nn j) (n + 2)).1)) (t := t) (m := m) (z := (tsC (isCo ax ay bx bY cx cy dx dy n N X Y S Z) (allTr nn T U V m) (lnsOk (lnA ax ay bx bY cx cy dx dy n X Y S Z) (lnB ax ay bx bY cx cy dx dy n X Y S Z) (lnC ax ay bx bY cx cy dx dy n X Y S Z) (lnD ax ay bx bY cx cy dx dy n X Y S Z) (n + 1))))
  generalize (oaL (fun j => (tmS (lnA ax ay bx bY cx cy dx dy n X Y S Z) (lnB ax ay bx bY cx cy dx dy n X Y S Z) (lnC ax ay bx bY cx cy dx dy n X Y S Z) (lnD ax ay bx bY cx cy dx dy n X Y S Z) (T j) (U j) (V j) (nn j) (n + 2)).1) t m (oaC m (tsC (isCo ax ay bx bY cx cy dx dy n N X Y S Z) (allTr nn T U V m) (lnsOk (lnA ax ay bx bY cx cy dx dy n X Y S Z) (lnB ax ay bx bY cx cy dx dy n X Y S Z) (lnC ax ay bx bY cx cy dx dy n X Y S Z) (lnD ax ay bx bY cx cy dx dy n X Y S Z) (n + 1))))) = L at *
  generalize (oaC m (tsC (isCo ax ay bx bY cx cy dx dy n N X Y S Z) (allTr nn T U V m) (lnsOk (lnA ax ay bx bY cx cy dx dy n X Y S Z) (lnB ax ay bx bY cx cy dx dy n X Y S Z) (lnC ax ay bx bY cx cy dx dy n X Y S Z) (lnD ax ay bx bY cx cy dx dy n X Y S Z) (n + 1)))) = cd at *
  clear KZ KY hb hc hf hz hb2 HB1 k1 k2 k3 k4 q1 q2 q4 z0
  have zA0 : w.heap.size < wA.heap.size := by have := World.block_lt_of_cell? _ _ a0.out.1; exact this
  go_upto_region 8 with fail
  go_cut [8, 9] (fun s1 s2 W => ∃ (so0 : Option Addr) (cp0 : Nat), s1 = .slice so0 L.length cp0 ∧ s2 = .int .i64 cd ∧ RowAt W so0 L.length 1 (v1 fun i => L[i]?.getD 0) ∧ Below wA.heap.size wA W)
  case first =>
    obtain ⟨o0, o1, o2, o3, o4, o5, o6, o7, o8⟩ := a0.out
    go_wp2_with fail; (with_reducible refine (HC.out _ (bstep HA.out bwz)).mono ?_); rintro e w2 ⟨gc, rfl, hrow, hmine, hge, hgl, hb⟩; have Hgc := hide hrow; have Hb := hide hb; clear hrow hmine hb
    have HB2 := hide (show Below wA.heap.size wA w2 by have hb := Hb.out; exact bwz)
    go_wp2_with fail; (with_reducible refine (HT.out _ (bstep HA.out HB2.out)).mono ?_); rintro e w3 ⟨gt, G, rfl, ht, htm, hb⟩
    have Hgc2 := hide (RowAt.later hb Hgc.out)
    have HB3 := hide (bstep HB2.out hb)
    have Ht := hide ht
    clear ht hb htm
    go_wp2_with fail; (with_reducible refine ((HS.out _ _ _ _ _ _ _ Hgc2.out Ht.out)).mono ?_); rintro e w4 ⟨so0, cp0, rfl, hown, hb⟩; have Hrs := hide (OwZ.read (hown)); clear hown
    go_wp2
    go_meet
    exact ⟨so0, cp0, rfl, rfl, Hrs.out, bstep HB3.out hb⟩
  case rest =>
  obtain ⟨so0, cp0, rfl, rfl, h0, rB⟩ := hcut
  obtain ⟨wB, rfl⟩ : ∃ W : World, W = wc := ⟨_, rfl⟩
  have H0 := hide h0
  have b0 := hide (CoAt.later rB a0.out)
  have HB := hide (bstep HA.out rB)
  have sB := rB.size
  have sB0 : w.heap.size < wB.heap.size := by omega
  clear a0 rB HA h0 zA0
  go_upto_region 9 with fail
  go_cut [10] (fun s14 W => ∃ gx g1 : Nat, s14 = .pointer (some ⟨gx, 0, none⟩) ∧ CoAt W gx ax ay bx bY cx cy dx dy (some ⟨g1, 0, none⟩) n n ∧ RowAt W (some ⟨g1, 0, none⟩) n 5 (v5 N X Y S Z) ∧ Mine W g1 (n * 5) ∧ wB.heap.size ≤ g1 ∧ g1 < gx ∧ gx < W.heap.size ∧ Below wB.heap.size wB W)
  case first =>
    obtain ⟨o0, o1, o2, o3, o4, o5, o6, o7, o8⟩ := b0.out
    go_wp2_with (go_at_call 7; (with_reducible refine (HC.out _ (bstep HB.out bwz)).mono ?_); rintro e w9 ⟨gt2, rfl, hrow, hmine, hge, hgl, hb⟩; have Hrow := hide hrow; have Hmine := hide hmine; clear hrow hmine)
    go_meet
    exact ⟨w9.heap.size, gt2, rfl, ⟨by go_simp, by go_simp, by go_simp, by go_simp, by go_simp, by go_simp, by go_simp, by go_simp, by go_simp⟩, Hrow.out.later (Below.alloc (Below.refl _ _) (Nat.le_refl _) _), Hmine.out.later (Below.alloc (Below.refl _ _) (Nat.le_refl _) _), hge, hgl, by simp, bwz⟩
  case rest =>
  obtain ⟨gx, g1, rfl, c3', hrow1, hm1, q1, q2, q7, hBC⟩ := hcut
  obtain ⟨wC, rfl⟩ : ∃ W : World, W = wc := ⟨_, rfl⟩
  have C3 := hide c3'
  have Hrow1 := hide hrow1
  have Hm1 := hide hm1
  have d0 := hide (CoAt.later hBC b0.out)
  have HC2 := hide (bstep HB.out hBC)
  have HBC := hide hBC
  have H0C := hide (RowAt.later hBC H0.out)
  have sC := hBC.size
  have sC0 : w.heap.size < wC.heap.size := by omega
  clear b0 c3' hrow1 hm1 hBC HB
  go_wp2_with fail; (with_reducible refine (HT.out _ HC2.out).mono ?_); rintro e wX ⟨gt, G, rfl, ht, htm, hCC⟩
  have x0 := hide (CoAt.later hCC d0.out)
  have x4 := hide (CoAt.later hCC C3.out)
  have HX := hide (bstep HC2.out hCC)
  have HBX := hide (HBC.out.trans (hCC.mono HBC.out.size))
  have H0X := hide (RowAt.later hCC H0C.out)
  have Hrow1X := hide (RowAt.later hCC Hrow1.out)
  have Hm1X := hide (Mine.later hCC Hm1.out)
  have HtX := hide ht
  have HmX := hide htm
  have HGx := hide (fun i (hi : i < m) => (htm.1 i hi).2.2.2)
  have sgt := htm.2.2
  have sX := hCC.size
  have sX0 : w.heap.size < wX.heap.size := by omega
  have sXg : gx < wX.heap.size := by omega
  clear d0 C3 hCC HC2 HBC H0C Hrow1 Hm1 ht htm sC0
  go_upto_region 11 with fail
  go_cut [12, 13] (fun s1 s2 W => ∃ (so1 : Option Addr) (cp1 : Nat), s1 = .slice so1 L.length cp1 ∧ s2 = .int .i64 cd ∧ OwZ W wX.heap.size so1 L ∧ Below wX.heap.size wX W)
  case first =>
    obtain ⟨o0, o1, o2, o3, o4, o5, o6, o7, o8⟩ := x4.out
    go_wp2_with (go_at_call 9; (with_reducible refine (HI.out _ _ _ _ _ _ _ Hrow1X.out (Nat.le_refl _) HtX.out).mono ?_); rintro e w9 ⟨so1, cp1, rfl, hown, hb⟩; have H1 := hide (hown); clear hown)
    go_meet
    exact ⟨so1, cp1, rfl, rfl, H1.out, hb⟩
  case rest =>
  obtain ⟨so1, cp1, rfl, rfl, h1, rD⟩ := hcut
  obtain ⟨wD, rfl⟩ : ∃ W : World, W = wc := ⟨_, rfl⟩
  have H1_0 := hide h1
  clear h1
  have e0_1 := hide (CoAt.later rD x0.out)
  have e4_1 := hide (CoAt.later rD x4.out)
  have H_1 := hide (bstep HX.out rD)
  have HB_1 := hide (HBX.out.trans (rD.mono HBX.out.size))
  have H0_1 := hide (RowAt.later rD H0X.out)
  have Hr1_1 := hide (RowAt.later rD Hrow1X.out)
  have Ht_1 := hide (Trs.later rD HtX.out)
  have Hm1_1 := hide (Mine.later rD Hm1X.out)
  have Hm3_1 := hide (TrM.later rD HmX.out)
  have s_1 := rD.size
  have sw0_1 : w.heap.size < wD.heap.size := by omega
  have sgx_1 : gx < wD.heap.size := by omega
  have sg1_1 : g1 < wD.heap.size := by omega
  have sX_1 : wX.heap.size ≤ wD.heap.size := by omega
  clear x0 x4 HX HBX H0X Hrow1X HtX Hm1X HmX
  clear rD
  go_wp2_with fail; (with_reducible refine (laws_eqInt64S _ _ L.length _ _ _ _ (OwZ.read H1_0.out) (H0_1.out) (by omega)).mono ?_); rintro e wE ⟨rfl, hbE⟩
  have e0_2 := hide (CoAt.later hbE e0_1.out)
  have e4_2 := hide (CoAt.later hbE e4_1.out)
  have H_2 := hide (bstep H_1.out hbE)
  have HB_2 := hide (HB_1.out.trans (hbE.mono HB_1.out.size))
  have H0_2 := hide (RowAt.later hbE H0_1.out)
  have Hr1_2 := hide (RowAt.later hbE Hr1_1.out)
  have Ht_2 := hide (Trs.later hbE Ht_1.out)
  have Hm1_2 := hide (Mine.later hbE Hm1_1.out)
  have Hm3_2 := hide (TrM.later hbE Hm3_1.out)
  have H1_2 := hide (OwZ.later H1_0.out hbE)
  have s_2 := hbE.size
  have sw0_2 : w.heap.size < wE.heap.size := by omega
  have sgx_2 : gx < wE.heap.size := by omega
  have sg1_2 : g1 < wE.heap.size := by omega
  have sX_2 : wX.heap.size ≤ wE.heap.size := by omega
  clear e0_1 e4_1 H_1 HB_1 H0_1 Hr1_1 Ht_1 Hm1_1 Hm3_1 H1_0
  clear hbE
  go_upto_region 14 with fail
  obtain ⟨o0, o1, o2, o3, o4, o5, o6, o7, o8⟩ := e0_2.out
  obtain ⟨p0, p1, p2, p3, p4, p5, p6, p7, p8⟩ := e4_2.out
  refine wp_region_held_drew (S := fun W => Below wE.heap.size wE W) (by kernel_rfl) (Below.drew (Below.refl _ _)) (fun hHeld => ?_)
  refine tkL 0 (some 58) rfl ?_; (try simp only [pz])
  refine tkL 1 (some 59) rfl ?_; (try simp only [pz])
  refine wpAnyH_ready (rs := [2]) (by kernel_rfl) (by simp) ?_; refine (AllReadyH.cons (o := ⟨some 60, _, _, _, _, _⟩) rfl (fun K hK => ?_) AllReadyH.nil)
  go_simp; (first | (go_at_call 7; (with_reducible refine (HC.out _ (bstep H_2.out bwz)).mono ?_); rintro e w9 ⟨gc, rfl, hrow, hmine, hge, hgl, hb⟩; have Hgc := hide hrow; clear hrow hmine hge hgl; obtain ⟨hc, hf⟩ := bcell hb; have hzq := hb.size; (try simp at hzq)) | (go_at_call 11; (with_reducible refine (laws_eqCourse ax ay bx bY cx cy dx dy _ _ n _ _ N X Y S Z _ (RowAt.later (show Below wE.heap.size wE _ from hHeld) Hr1_2.out) (RowAt.later (by first | with_reducible assumption | with_reducible exact Below.refl _ _ | exact bwz) Hgc.out) hn).mono ?_); rintro e w9 ⟨rfl, hb⟩; obtain ⟨hc, hf⟩ := bcell hb))
  all_goals (try go_wp2_with fail)
  refine hK.out _ _ ?_ (fun hH2 => ?_)
  · first | exact bstep hHeld hb | exact hHeld.trans hb | exact hHeld
  clear hK K hHeld; (have hHeld := hH2); clear hH2; (try simp only [pz])
  refine wpAnyH_ready (rs := [3]) (by kernel_rfl) (by simp) ?_; refine (AllReadyH.cons (o := ⟨some 61, _, _, _, _, _⟩) rfl (fun K hK => ?_) AllReadyH.nil)
  go_simp; (first | (go_at_call 7; (with_reducible refine (HC.out _ (bstep H_2.out bwz)).mono ?_); rintro e w9 ⟨gc, rfl, hrow, hmine, hge, hgl, hb⟩; have Hgc := hide hrow; clear hrow hmine hge hgl; obtain ⟨hc, hf⟩ := bcell hb; have hzq := hb.size; (try simp at hzq)) | (go_at_call 11; (with_reducible refine (laws_eqCourse ax ay bx bY cx cy dx dy _ _ n _ _ N X Y S Z _ (RowAt.later (show Below wE.heap.size wE _ from hHeld) Hr1_2.out) (RowAt.later (by first | with_reducible assumption | with_reducible exact Below.refl _ _ | exact bwz) Hgc.out) hn).mono ?_); rintro e w9 ⟨rfl, hb⟩; obtain ⟨hc, hf⟩ := bcell hb))
  all_goals (try go_wp2_with fail)
  refine hK.out _ _ ?_ (fun hH2 => ?_)
  · first | exact bstep hHeld hb | exact hHeld.trans hb | exact hHeld
  clear hK K hHeld; (have hHeld := hH2); clear hH2; (try simp only [pz])
  refine tkN 4 (some 62) rfl ?_; (try simp only [pz])
  refine wpAnyH_done (by kernel_rfl) ?_ _; (try simp only [pz])
  obtain ⟨wF, rfl⟩ : ∃ W : World, W = w9 := ⟨_, rfl⟩
  clear o0 o1 o2 o3 o4 o5 o6 o7 o8 p0 p1 p2 p3 p4 p5 p6 p7 p8 hc hf hb
  have e0_3 := hide (CoAt.later hHeld e0_2.out)
  have e4_3 := hide (CoAt.later hHeld e4_2.out)
  have H_3 := hide (bstep H_2.out hHeld)
  have HB_3 := hide (HB_2.out.trans (hHeld.mono HB_2.out.size))
  have H0_3 := hide (RowAt.later hHeld H0_2.out)
  have Ht_3 := hide (Trs.later hHeld Ht_2.out)
  have Hm1_3 := hide (Mine.later hHeld Hm1_2.out)
  have Hm3_3 := hide (TrM.later hHeld Hm3_2.out)
  have H1_3 := hide (OwZ.later H1_2.out hHeld)
  have s_3 := hHeld.size
  have sw0_3 : w.heap.size < wF.heap.size := by omega
  have sgx_3 : gx < wF.heap.size := by omega
  have sg1_3 : g1 < wF.heap.size := by omega
  have sX_3 : wX.heap.size ≤ wF.heap.size := by omega
  clear e0_2 e4_2 H_2 HB_2 H0_2 Hr1_2 Ht_2 Hm1_2 Hm3_2 H1_2
  clear hHeld
  go_wp2_with fail; (with_reducible refine (HT.out _ H_3.out).mono ?_); rintro e wG ⟨gt3, G3, rfl, ht3, htm3, hbG⟩
  have Ht3 := hide ht3
  clear ht3 htm3
  have e0_4 := hide (CoAt.later hbG e0_3.out)
  have e4_4 := hide (CoAt.later hbG e4_3.out)
  have H_4 := hide (bstep H_3.out hbG)
  have HB_4 := hide (HB_3.out.trans (hbG.mono HB_3.out.size))
  have H0_4 := hide (RowAt.later hbG H0_3.out)
  have Ht_4 := hide (Trs.later hbG Ht_3.out)
  have Hm1_4 := hide (Mine.later hbG Hm1_3.out)
  have Hm3_4 := hide (TrM.later hbG Hm3_3.out)
  have H1_4 := hide (OwZ.later H1_3.out hbG)
  have s_4 := hbG.size
  have sw0_4 : w.heap.size < wG.heap.size := by omega
  have sgx_4 : gx < wG.heap.size := by omega
  have sg1_4 : g1 < wG.heap.size := by omega
  have sX_4 : wX.heap.size ≤ wG.heap.size := by omega
  clear e0_3 e4_3 H_3 HB_3 H0_3 Ht_3 Hm1_3 Hm3_3 H1_3
  clear hbG
  go_wp2_with fail; (with_reducible refine (HQ.out _ _ _ _ _ _ _ _ _ Ht_4.out Ht3.out).mono ?_); rintro e wP ⟨rfl, hbP⟩
  have e0_5 := hide (CoAt.later hbP e0_4.out)
  have e4_5 := hide (CoAt.later hbP e4_4.out)
  have H_5 := hide (bstep H_4.out hbP)
  have HB_5 := hide (HB_4.out.trans (hbP.mono HB_4.out.size))
  have H0_5 := hide (RowAt.later hbP H0_4.out)
  have Hm1_5 := hide (Mine.later hbP Hm1_4.out)
  have Hm3_5 := hide (TrM.later hbP Hm3_4.out)
  have H1_5 := hide (OwZ.later H1_4.out hbP)
  have s_5 := hbP.size
  have sw0_5 : w.heap.size < wP.heap.size := by omega
  have sgx_5 : gx < wP.heap.size := by omega
  have sg1_5 : g1 < wP.heap.size := by omega
  have sX_5 : wX.heap.size ≤ wP.heap.size := by omega
  clear e0_4 e4_4 H_4 HB_4 H0_4 Ht_4 Hm1_4 Hm3_4 H1_4
  clear hbP Ht3
  obtain ⟨p0, p1, p2, p3, p4, p5, p6, p7, p8⟩ := e4_5.out
  go_wp2_with fail; (with_reducible refine (laws_markCourse ax ay bx bY cx cy dx dy g1 n n _ Hm1_5.out (by omega) hn).mono ?_); rintro e wH ⟨rfl, hgr⟩
  clear p0 p1 p2 p3 p4 p5 p6 p7 p8
  have kH : Below wB.heap.size wP wH := Below.grown (Below.refl _ _) hgr (by omega) (by intro k hk; simp at hk; omega)
  have f0_wH := hide (CoAt.below kH (by omega) e0_5.out)
  have fH_wH := hide (H_5.out.trans (kH.mono (by omega)))
  have fB_wH := hide (HB_5.out.trans (kH.mono (by omega)))
  have f9_wH := hide (RowAt.later fB_wH.out H0.out)
  have s_wH := kH.size
  have sw0_wH : w.heap.size < wH.heap.size := by omega
  have sX_wH : wX.heap.size ≤ wH.heap.size := by omega
  have fm_wH := hide (TrM.grown hgr (by omega) Hm3_5.out)
  have f1_wH := hide (OwZ.grown H1_5.out hgr (by omega))
  clear e0_5 e4_5 H_5 HB_5 H0_5 Hm1_5 Hm3_5 H1_5 hgr kH
  go_wp2_with fail; (with_reducible refine (laws_markTrackS wC gt m m G nn (1 + 5 * (n : Int)) _ (fun W => Below wB.heap.size wH W ∧ OwZ W wX.heap.size so1 L) (by omega) (by omega) fm_wH.out q3 Q4.out (fun i W W2 hi hsz hgr hI => ⟨Below.grown hI.1 hgr (by omega) (by intro k hk; have := (HGx.out i hi).1; simp at hk; omega), OwZ.grown hI.2 hgr (by have := (HGx.out i hi).2; omega)⟩) ⟨Below.refl _ _, f1_wH.out⟩).mono ?_); rintro e wI ⟨⟨x9, hx9, rfl⟩, kI, h1I⟩
  have f0_wI := hide (CoAt.below kI (by omega) f0_wH.out)
  have fH_wI := hide (fH_wH.out.trans (kI.mono (by omega)))
  have fB_wI := hide (fB_wH.out.trans (kI.mono (by omega)))
  have f9_wI := hide (RowAt.later fB_wI.out H0.out)
  have s_wI := kI.size
  have sw0_wI : w.heap.size < wI.heap.size := by omega
  have sX_wI : wX.heap.size ≤ wI.heap.size := by omega
  have f1_wI := hide h1I
  clear f0_wH fH_wH fB_wH f9_wH fm_wH f1_wH h1I kI
  have kneg : ¬ (x9 < 0) := by omega
  go_wp2_with fail; (with_reducible refine (laws_eqInt64S _ _ L.length _ _ _ _ (OwZ.read f1_wI.out) (f9_wI.out) (by omega)).mono ?_); rintro e wJ ⟨rfl, hbJ⟩
  have e0_6 := hide (CoAt.later hbJ f0_wI.out)
  have H_6 := hide (bstep fH_wI.out hbJ)
  have HB_6 := hide (fB_wI.out.trans (hbJ.mono fB_wI.out.size))
  have H1_6 := hide (OwZ.later f1_wI.out hbJ)
  have s_6 := hbJ.size
  have sw0_6 : w.heap.size < wJ.heap.size := by omega
  have sX_6 : wX.heap.size ≤ wJ.heap.size := by omega
  clear f0_wI fH_wI fB_wI f9_wI f1_wI
  clear hbJ kneg
  obtain ⟨gm, hm1, hm2, hm3⟩ := OwZ.mark H1_6.out
  have Hmm := hide hm3
  clear hm3
  go_wp2_with fail; (with_reducible refine (laws_markInt64S_1 so1 gm L.length cp1 _ hm1 Hmm.out (by omega)).mono ?_); rintro e wK ⟨rfl, hgr, hrowK⟩
  have kK : Below wX.heap.size wJ wK := Below.grown (Below.refl _ _) hgr (by omega) (by intro k hk; simp at hk; omega)
  clear hgr
  have HrowK := hide hrowK
  clear hrowK
  have t0_K := hide (CoAt.below kK (by omega) e0_6.out)
  have tH_K := hide (H_6.out.trans (kK.mono (by omega)))
  have tB_K := hide (HB_6.out.trans (kK.mono (by omega)))
  have sK := kK.size
  clear kK e0_6 H_6 HB_6 H1_6
  go_wp2_with fail; (with_reducible refine (laws_heldInt64S_1 so1 L.length cp1 _ HrowK.out (by omega)).mono ?_); rintro e wL ⟨rfl, hbL⟩
  have e0_7 := hide (CoAt.later hbL t0_K.out)
  have H_7 := hide (bstep tH_K.out hbL)
  have HB_7 := hide (tB_K.out.trans (hbL.mono tB_K.out.size))
  have HM_7 := hide (RowAt.later hbL HrowK.out)
  have s_7 := hbL.size
  have sw0_7 : w.heap.size < wL.heap.size := by omega
  have sX_7 : wX.heap.size ≤ wL.heap.size := by omega
  clear t0_K tH_K tB_K HrowK
  clear hbL
  have H0L := hide (RowAt.later HB_7.out H0.out)
  go_upto_region 31 with fail
  go_cut [17, 18] (fun s1 s2 W => ∃ (so0 : Option Addr) (cp0 : Nat), s1 = .slice so0 L.length cp0 ∧ s2 = .int .i64 cd ∧ RowAt W so0 L.length 1 (v1 fun i => L[i]?.getD 0) ∧ Below wL.heap.size wL W)
  case first =>
    obtain ⟨o0, o1, o2, o3, o4, o5, o6, o7, o8⟩ := e0_7.out
    go_wp2_with fail; (with_reducible refine (HC.out _ (bstep H_7.out bwz)).mono ?_); rintro e w2 ⟨gc, rfl, hrow, hmine, hge, hgl, hb⟩; have Hgc := hide hrow; have Hb := hide hb; clear hrow hmine hb
    have HB2 := hide (show Below wL.heap.size wL w2 by have hb := Hb.out; exact bwz)
    go_wp2_with fail; (with_reducible refine (HT.out _ (bstep H_7.out HB2.out)).mono ?_); rintro e w3 ⟨gt, G, rfl, ht, htm, hb⟩
    have Hgc2 := hide (RowAt.later hb Hgc.out)
    have HB3 := hide (bstep HB2.out hb)
    have Ht := hide ht
    clear ht hb htm
    go_wp2_with fail; (with_reducible refine ((HI.out _ _ _ _ _ _ _ Hgc2.out (Nat.le_refl _) Ht.out)).mono ?_); rintro e w4 ⟨so0, cp0, rfl, hown, hb⟩; have Hrs := hide (OwZ.read (hown)); clear hown
    go_wp2
    go_meet
    exact ⟨so0, cp0, rfl, rfl, Hrs.out, bstep HB3.out hb⟩
  case rest =>
  obtain ⟨so3, cp3, rfl, rfl, h3, rM⟩ := hcut
  obtain ⟨wM, rfl⟩ : ∃ W : World, W = wc := ⟨_, rfl⟩
  have H3 := hide h3
  have HM2 := hide (bstep H_7.out rM)
  have H0M := hide (RowAt.later rM H0L.out)
  have HrowM := hide (RowAt.later rM HM_7.out)
  clear rM h3 e0_7 H_7 HB_7 HM_7 H0L
  go_wp2_with fail; (with_reducible refine (laws_eqInt64S _ _ L.length _ _ _ _ (H3.out) (H0M.out) (by omega)).mono ?_); rintro e wN ⟨rfl, hbN⟩
  have HN2 := hide (bstep HM2.out hbN)
  have HrowN := hide (RowAt.later hbN HrowM.out)
  clear hbN
  go_wp2_with fail; (with_reducible refine (laws_heldInt64S_1 so1 L.length cp1 _ HrowN.out (by omega)).mono ?_); rintro e wO ⟨rfl, hbO⟩
  have HO2 := hide (bstep HN2.out hbO)
  clear hbO
  go_wp2
  go_ret
  exact ⟨rfl, HO2.out⟩

set_option maxRecDepth 100000 in
theorem FnExactOrderAt_lifted (os : Os) (started : os.Started) (H : Type) (enc : TypeId × Value → H) :
    ReturnsInHanded {} Tryz.checked os 3 .any (fun w args => (Rows.fnExactOrderAtSpec.pre enc Tryz.prog Tryz.f3 [] false w args ∧ laidMetH Tryz.prog Rows.fnExactOrderAtRow.laid w) ∧ sizedMet enc Tryz.prog Tryz.f3 (OpenSpec.ofChange Rows.fnExactOrderAtSpec) false w args) (Rows.fnExactOrderAtSpec.post enc Tryz.prog Tryz.f3 false true false false) := by
  refine returnsInHanded_of_change_and (C := Tryz.checked) (X := fun w _ => laidMetH Tryz.prog Rows.fnExactOrderAtRow.laid w) (fun _ _ _ hh h => h.of_heap hh) Tryz.own started (by as_aux_lemma => kernel_rfl) Tryz.func3
    (ChangeSpec.witness_shaped (enc := enc) (C := Tryz.checked) (os := os) (X := fun w _ => laidMetH Tryz.prog Rows.fnExactOrderAtRow.laid w) false (World.laidAll Tryz.prog os Rows.fnExactOrderAtRow.laid) #[.agg #[.int .i64 0, .int .i64 0, .int .i64 0, .int .i64 0, .int .i64 0, .int .i64 0, .int .i64 0, .int .i64 0, .slice none 0 0], .slice none 0 0, .int .i64 0] 8 (World.laidAll_os _ _ _) (World.shaped_of_ZipB (by as_aux_lemma => kernel_rfl) (by as_aux_lemma => kernel_rfl)) (by as_aux_lemma => kernel_rfl) (by as_aux_lemma => kernel_rfl) (by as_aux_lemma => kernel_rfl) (by rw [MakeChecks.laidMetH_plain _ _ _ (by as_aux_lemma => kernel_rfl)]; exact laidMet_laidAll _ (by as_aux_lemma => kernel_rfl) (by as_aux_lemma => kernel_rfl))) ?_
  intro W base args ds gs before hval0 hW _ _ hL _
  have hval : ∀ (j : Nat) t v, Tryz.f3.params[j]? = some t → args[j]? = some v → Value.okWide Tryz.prog W .any base t v := hval0
  have hW' := hW
  obtain ⟨p, q, hA0, hV, rfl, _, _⟩ := hW
  have hA : DataW.TrodAll enc Tryz.prog W 0 (fun _ => true) true Tryz.f3.params.toList args.toList ds p := hA0
  rw [Tryz.params3] at hA hval
  obtain ⟨v0, vs0, d0, ds0, p0, q0, hargs, rfl, rfl, h0, r0⟩ := trodAll_cons hA
  obtain ⟨v1, vs1, d1, ds1, p1, q1, rfl, rfl, rfl, h1, r1⟩ := trodAll_cons r0
  obtain ⟨v2, vs2, d2, ds2, p2, q2, rfl, rfl, rfl, h2, r2⟩ := trodAll_cons r1
  obtain ⟨rfl, rfl, rfl⟩ := trodAll_nil r2
  obtain rfl : args = #[v0, v1, v2] := by cases args; simp_all
  obtain ⟨ax0, ay0, bx0, bY0, cx0, cy0, dx0, dy0, so0, n0, cp0, N0, X0, Y0, S0, Z0, rfl, hl0, hr0, hN0⟩ := op_course (hval 0 28 v0 rfl rfl) h0
  obtain ⟨so1, n1, cp1, A1, M1, C1, T1, U1, V1, rfl, hl1, hr1, hM1⟩ := op_tracks (hval 1 29 v1 rfl rfl) h1
  obtain ⟨a2, rfl, _, _, _⟩ := open_int Tryz.underlying2 (hval 2 2 v2 rfl rfl) h2
  obtain ⟨rfl, rfl⟩ := trodVars_none hV
  refine (laws_FnExactOrderAt ax0 ay0 bx0 bY0 cx0 cy0 dx0 dy0 so0 n0 cp0 N0 X0 Y0 S0 Z0 so1 n1 cp1 A1 M1 C1 T1 U1 V1 a2 W hl0 hr0 hN0 hl1 hr1 hM1).mono fun e W1 ⟨he, hb⟩ => ⟨_, he, ?_⟩
  exact law_post Tryz.laidOut (by as_aux_lemma => kernel_rfl) Tryz.underlying4 rfl rfl hW' rfl rfl rfl hb
set_option maxHeartbeats 8000000 in
theorem FnExactOrderAt_closed : joinedFacts Tryz.prog 3 Tryz.f3 Rows.fnExactOrderAtSpec Rows.fnExactOrderAtRow = true := by
  simp only [joinedFacts, Bool.and_eq_true, Tryz.laidOut, Tryz.mapsRowed, Tryz.stopsNone, Tryz.stopKnobsNone, Tryz.plainKeysIs, Tryz.stopsHeardIs, Tryz.mayEnterIs, Tryz.liftsFinalIs, Tryz.makeIs, and_true, true_and]
  repeat' (with_reducible refine And.intro ?_ ?_)
  all_goals (as_aux_lemma => kernel_rfl)
set_option maxHeartbeats 8000000 in
/-- FnExactOrderAt: whatever the input, the law returns true, and the input reads as it did. -/
theorem FnExactOrderAt_row : Rows.FnExactOrderAtSaid :=
  OpenClaim.holds_of_wide 3 Tryz.f3 rfl rfl rfl rfl rfl rfl rfl ⟨rfl, rfl, rfl, rfl, rfl⟩ rfl rfl rfl rfl rfl (by as_aux_lemma => kernel_rfl) Tryz.func3
    FnExactOrderAt_closed
    (of_decide_eq_true (by as_aux_lemma => kernel_rfl)) (by unfold Func.isWrapper; rw [if_neg (of_decide_eq_false (by as_aux_lemma => kernel_rfl))]; exact ⟨rfl, rfl⟩)
    (fun os started H enc _ => FnExactOrderAt_lifted os started H enc)

set_option maxHeartbeats 8000000 in
/-- FnExactOrderAt: the tied card. -/
theorem FnExactOrderAt_holds : Rows.FnExactOrderAtCardSaid :=
  Claim7.holds_tied_plain_at .later [] [.data, .pinned] true (true, "b9bb044dec7e87fd7a3752e2366363e48dc18224f3fd9d6513a6e862d574c5b1") false
    FnExactOrderAt_row (fun _ h => by cases h) (by as_aux_lemma => kernel_rfl) (fun _ h => by cases h) fnExactOrderAt_row_tie rfl ⟨rfl, rfl⟩ (by as_aux_lemma => kernel_rfl) rfl
    (fun f fn hf hfn => by
      obtain rfl : f = 3 := Option.some.inj ((show Tryz.prog.funcNamed Rows.fnExactOrderAtRow.func = some 3 by kernel_rfl).symm.trans hf) |>.symm
      obtain rfl : fn = Tryz.f3 := (Option.some.inj (Tryz.func3.symm.trans hfn)).symm
      exact ⟨by kernel_rfl, fun j t ht => by
        rw [Tryz.params3] at ht
        have hm : t ∈ [28, 29, 2] := by simpa using Array.mem_of_getElem? ht
        have hall : ([28, 29, 2].all fun u => !Tryz.prog.wantsStandIn u) = true := by kernel_rfl
        exact (show Tryz.prog.wantsStandIn t = false by simpa using List.all_eq_true.1 hall t hm)⟩)
    (by as_aux_lemma => kernel_rfl)
#print axioms FnExactOrderAt_holds
end Go.Proofs.YtiokigjnacmilaaGreatDoor
