/- FirstToZone of the program returns what the reference's returns, for every course, mark and list of tracks. What the program's text lays in the library's table is all that the card takes. -/
import Derived.Test.YtlllfklehbjneaaDoorTo
import Derived.Test.YtlllfklehbjneaaDoorBs
import Derived.Test.YtlllfklehbjneaaDoorCd
import Derived.Test.YtlllfklehbjneaaDoorLaw
import Derived.Test.YtlllfklehbjneaaDoorTie
import Derived.Test.YtlllfklehbjneaaDoorCards
import Derived.Lay
import Derived.LaidMore
import Derived.OpenShut
import Derived.ChangeMaps5
import Derived.Stop.Joined
import Derived.SevenTiedAt
import Derived.Deep.DeepCutAuto
namespace Go.Proofs.YtlllfklehbjneaaDoor
open Go.ChangeShapes Go.WideShapes Go.ChangeAt Go.RowKit

set_option maxRecDepth 100000 in
set_option maxHeartbeats 16000000 in
theorem laws_FnExactFirstToZone (ax ay bx bY cx cy dx dy : Int) (so : Option Addr) (n cap : Nat) (N : Nat → ByteArray) (X Y S Z : Nat → Int) (k : Int) (so2 : Option Addr) (m cap2 : Nat) (A : Nat → Option Addr) (nn C : Nat → Nat) (T U V : Nat → Nat → Int) (w : World) (hl : n ≤ maxLen) (h : RowAt w so n 5 (v5 N X Y S Z)) (hN : ∀ i, (N i).size ≤ maxLen) (hl2 : m ≤ maxLen) (h2 : Trs w so2 m A nn C T U V) (hnn : ∀ i, nn i ≤ maxLen) :
    Calls Tryd.prog 9 #[.agg #[.int .i64 ax, .int .i64 ay, .int .i64 bx, .int .i64 bY, .int .i64 cx, .int .i64 cy, .int .i64 dx, .int .i64 dy, .slice so n cap], .int .i64 k, .slice so2 m cap2] w fun e w' => e = .returned (.bool true) ∧ Below w.heap.size w w' := by
  have KZ := hide (fun W (hb : Below w.heap.size w W) => laws_szCourse ax ay bx bY cx cy dx dy so n cap N X Y S Z 1048576 W (RowAt.later hb h) hN hl (by decide) (by decide))
  have KY := hide (fun W x (hb : Below w.heap.size w W) h0 h1 => laws_szTrackS so2 m cap2 A nn C T U V x W (Trs.later hb h2) (Nat.le_trans hl2 (by decide)) (fun i => Nat.le_trans (hnn i) (by decide)) h0 h1)
  unfold maxLen at hl hl2
  have Hh := hide h
  have Hh2 := hide h2
  clear h h2 hN hnn
  go_enter Tryd.func9, Tryd.ntmps9
  go_wp2_with fail; (with_reducible refine (KZ.out _ (by repeat (first | with_reducible exact Below.refl _ _ | with_reducible assumption | with_reducible refine Below.drew ?_ | with_reducible refine below_drewN ?_ _ | with_reducible refine Below.setCell ?_ (by first | exact Nat.le_refl _ | (simp; done) | (simp; omega) | (dsimp only; omega)) _ | with_reducible refine Below.alloc ?_ (by first | exact Nat.le_refl _ | (simp; done) | (simp; omega) | (simp at *; omega)) _ | with_reducible refine bstep ?_ (by assumption)))).mono ?_); rintro e w1 ⟨x, rfl, hq, hb⟩; obtain ⟨hc, hf⟩ := bcell hb; have hz := hb.size; have z0 : w.heap.size < w1.heap.size := (by first | omega | (simp at hz; omega))
  have HB1 := hide (show Below w.heap.size w w1 from (by repeat (first | with_reducible exact Below.refl _ _ | with_reducible assumption | with_reducible refine Below.drew ?_ | with_reducible refine below_drewN ?_ _ | with_reducible refine Below.setCell ?_ (by first | exact Nat.le_refl _ | (simp; done) | (simp; omega) | (dsimp only; omega)) _ | with_reducible refine Below.alloc ?_ (by first | exact Nat.le_refl _ | (simp; done) | (simp; omega) | (simp at *; omega)) _ | with_reducible refine bstep ?_ (by assumption))))
  rcases hq with rfl | ⟨k1, k2, k3⟩
  · go_wp2
    go_ret
    exact ⟨rfl, HB1.out⟩
  have k4 : ¬ x < 0 := by omega
  go_wp2_with fail; (with_reducible refine (KY.out _ x HB1.out (by omega) (by omega)).mono ?_); rintro e wA ⟨⟨x2, rfl, hq⟩, hb2⟩
  have a0 := hide (show CoAt wA w.heap.size ax ay bx bY cx cy dx dy so n cap from ⟨cell_later hb2 (by go_simp), cell_later hb2 (by go_simp), cell_later hb2 (by go_simp), cell_later hb2 (by go_simp), cell_later hb2 (by go_simp), cell_later hb2 (by go_simp), cell_later hb2 (by go_simp), cell_later hb2 (by go_simp), cell_later hb2 (by go_simp)⟩)
  have HA := hide (bstep HB1.out hb2)
  rcases hq with rfl | ⟨q1, q2, q3, q4⟩
  · go_wp2
    go_ret
    exact ⟨rfl, HA.out⟩
  have q5 : ¬ x2 < 0 := by omega
  have hn : n ≤ 1048576 := by omega
  have HS := hide (fun W so cp so' cp' A' C' (hr : RowAt W so n 5 (v5 N X Y S Z)) (hr' : Trs W so' m A' nn C' T U V) => spec_FirstToZone ax ay bx bY cx cy dx dy so n cp N X Y S Z k so' m cp' A' nn C' T U V W hr hn hr' q3 q4)
  have HI := hide (fun W so cp so' cp' A' C' (hr : RowAt W so n 5 (v5 N X Y S Z)) (hcp : n ≤ cp) (hr' : Trs W so' m A' nn C' T U V) => impl_FirstToZone ax ay bx bY cx cy dx dy so n cp N X Y S Z k so' m cp' A' nn C' T U V W hr hn hcp hr' q3 q4)
  have HC := hide (fun W (hb : Below w.heap.size w W) => laws_toCourse ax ay bx bY cx cy dx dy so n cap N X Y S Z W (RowAt.later hb Hh.out) hn)
  have HT := hide (fun W (hb : Below w.heap.size w W) => laws_toTrackS so2 m cap2 A nn C T U V W (Trs.later hb Hh2.out) q3 q4)
  have HQ := hide (fun W s1 c1 s2 c2 A1 A2 C1 C2 (r1 : Trs W s1 m A1 nn C1 T U V) (r2 : Trs W s2 m A2 nn C2 T U V) => laws_eqTrackS s1 s2 m c1 c2 A1 A2 nn C1 C2 T U V W r1 r2 q3 q4)
  generalize ftR (isCo ax ay bx bY cx cy dx dy n N X Y S Z) (allTr nn T U V m) n m k (ftP (X k.toNat) (Y k.toNat) (Z k.toNat) nn T U V m).1 = R9 at *
  obtain ⟨r0, cd⟩ := R9
  dsimp only at HS HI
  clear KZ KY hb hc hf hz hb2 HB1 k1 k2 k3 k4 q1 q2 q3 q4
  go_upto_region 8 with fail
  have zA0 : w.heap.size < wA.heap.size := by have := World.block_lt_of_cell? _ _ a0.out.1; exact this
  go_cut [8, 9] (fun s1 s2 W => s1 = .int .i64 r0 ∧ s2 = .int .i64 cd ∧ Below wA.heap.size wA W)
  case first =>
    obtain ⟨o0, o1, o2, o3, o4, o5, o6, o7, o8⟩ := a0.out
    go_wp2_with fail; (with_reducible refine (HC.out _ (bstep HA.out (by repeat (first | with_reducible exact Below.refl _ _ | with_reducible assumption | with_reducible refine Below.drew ?_ | with_reducible refine below_drewN ?_ _ | with_reducible refine Below.setCell ?_ (by first | exact Nat.le_refl _ | (simp; done) | (simp; omega) | (dsimp only; omega)) _ | with_reducible refine Below.alloc ?_ (by first | exact Nat.le_refl _ | (simp; done) | (simp; omega) | (simp at *; omega)) _ | with_reducible refine bstep ?_ (by assumption))))).mono ?_); rintro e w2 ⟨gc, rfl, hrow, hmine, hge, hgl, hb⟩; have Hgc := hide hrow; have Hb := hide hb; clear hrow hmine hb
    have HB2 := hide (show Below wA.heap.size wA w2 by have hb := Hb.out; exact (by repeat (first | with_reducible exact Below.refl _ _ | with_reducible assumption | with_reducible refine Below.drew ?_ | with_reducible refine below_drewN ?_ _ | with_reducible refine Below.setCell ?_ (by first | exact Nat.le_refl _ | (simp; done) | (simp; omega) | (dsimp only; omega)) _ | with_reducible refine Below.alloc ?_ (by first | exact Nat.le_refl _ | (simp; done) | (simp; omega) | (simp at *; omega)) _ | with_reducible refine bstep ?_ (by assumption))))
    go_wp2_with fail; (with_reducible refine (HT.out _ (bstep HA.out HB2.out)).mono ?_); rintro e w3 ⟨gt, G, rfl, ht, hb⟩
    have Hgc2 := hide (RowAt.later hb Hgc.out)
    have HB3 := hide (bstep HB2.out hb)
    have Ht := hide ht
    clear ht hb
    go_wp2_with fail; (with_reducible refine (HS.out _ _ _ _ _ _ _ Hgc2.out Ht.out).mono ?_); rintro e w4 ⟨rfl, hb⟩
    go_wp2
    go_meet
    exact ⟨rfl, rfl, bstep HB3.out hb⟩
  case rest =>
  obtain ⟨rfl, rfl, rB⟩ := hcut
  obtain ⟨wB, rfl⟩ : ∃ W : World, W = wc := ⟨_, rfl⟩
  have c0 := hide (CoAt.later rB a0.out)
  have HB := hide (bstep HA.out rB)
  have zB0 : w.heap.size < wB.heap.size := by have := rB.size; omega
  clear a0 rB HA zA0
  go_upto_region 9 with fail
  go_cut [10] (fun s14 W => ∃ gx g1 : Nat, s14 = .pointer (some ⟨gx, 0, none⟩) ∧ CoAt W gx ax ay bx bY cx cy dx dy (some ⟨g1, 0, none⟩) n n ∧ RowAt W (some ⟨g1, 0, none⟩) n 5 (v5 N X Y S Z) ∧ gx < W.heap.size ∧ Below wB.heap.size wB W)
  case first =>
    obtain ⟨o0, o1, o2, o3, o4, o5, o6, o7, o8⟩ := c0.out
    go_wp2_with (go_at_call 13; (with_reducible refine (HC.out _ (bstep HB.out (by repeat (first | with_reducible exact Below.refl _ _ | with_reducible assumption | with_reducible refine Below.drew ?_ | with_reducible refine below_drewN ?_ _ | with_reducible refine Below.setCell ?_ (by first | exact Nat.le_refl _ | (simp; done) | (simp; omega) | (dsimp only; omega)) _ | with_reducible refine Below.alloc ?_ (by first | exact Nat.le_refl _ | (simp; done) | (simp; omega) | (simp at *; omega)) _ | with_reducible refine bstep ?_ (by assumption))))).mono ?_); rintro e w9 ⟨gt2, rfl, hrow, hmine, hge, hgl, hb⟩; have Hrow := hide hrow; clear hrow hmine)
    go_meet
    exact ⟨w9.heap.size, gt2, rfl, ⟨by go_simp, by go_simp, by go_simp, by go_simp, by go_simp, by go_simp, by go_simp, by go_simp, by go_simp⟩, Hrow.out.later (Below.alloc (Below.refl _ _) (Nat.le_refl _) _), by simp, (by repeat (first | with_reducible exact Below.refl _ _ | with_reducible assumption | with_reducible refine Below.drew ?_ | with_reducible refine below_drewN ?_ _ | with_reducible refine Below.setCell ?_ (by first | exact Nat.le_refl _ | (simp; done) | (simp; omega) | (dsimp only; omega)) _ | with_reducible refine Below.alloc ?_ (by first | exact Nat.le_refl _ | (simp; done) | (simp; omega) | (simp at *; omega)) _ | with_reducible refine bstep ?_ (by assumption)))⟩
  case rest =>
  obtain ⟨gx, g1, rfl, p0, p1, p2, rC⟩ := hcut
  obtain ⟨wC, rfl⟩ : ∃ W : World, W = wc := ⟨_, rfl⟩
  have P0 := hide p0
  have P1 := hide p1
  have d0 := hide (CoAt.later rC c0.out)
  have HC2 := hide (bstep HB.out rC)
  have zC0 : w.heap.size < wC.heap.size := by have := rC.size; omega
  clear p0 p1 rC c0 HB zB0
  go_wp2_with fail; (with_reducible refine (HT.out _ HC2.out).mono ?_); rintro e wD ⟨gt, G, rfl, ht, hb⟩
  have Ht := hide ht
  have P0D := hide (CoAt.later hb P0.out)
  have P1D := hide (RowAt.later hb P1.out)
  have d0D := hide (CoAt.later hb d0.out)
  have HD := hide (bstep HC2.out hb)
  have zD0 : w.heap.size < wD.heap.size := by have := hb.size; omega
  have zD1 : gx < wD.heap.size := by have := hb.size; omega
  clear ht hb P0 P1 d0 HC2 zC0 p2
  obtain ⟨p0, p1, p2, p3, p4, p5, p6, p7, p8⟩ := P0D.out
  go_wp2_with fail; (with_reducible refine (HI.out _ _ _ _ _ _ _ P1D.out (Nat.le_refl _) Ht.out).mono ?_); rintro e wE ⟨rfl, hb⟩
  clear p0 p1 p2 p3 p4 p5 p6 p7 p8
  have P0E := hide (CoAt.later hb P0D.out)
  have P1E := hide (RowAt.later hb P1D.out)
  have d0E := hide (CoAt.later hb d0D.out)
  have HE := hide (bstep HD.out hb)
  have HtE := hide (Trs.later hb Ht.out)
  have zE0 : w.heap.size < wE.heap.size := by have := hb.size; omega
  have zE1 : gx < wE.heap.size := by have := hb.size; omega
  clear hb P0D P1D d0D HD zD0 zD1 Ht
  go_upto_region 14 with fail
  obtain ⟨o0, o1, o2, o3, o4, o5, o6, o7, o8⟩ := d0E.out
  obtain ⟨p0, p1, p2, p3, p4, p5, p6, p7, p8⟩ := P0E.out
  refine wp_region_held_drew (S := fun W => Below wE.heap.size wE W) (by kernel_rfl) (Below.drew (Below.refl _ _)) (fun hHeld => ?_)
  refine wpAnyH_take (i := 0) (oi := ⟨some 52, _, _, _, _, _⟩) (v := ?_) rfl (by kernel_rfl) (by kernel_rfl) (by kernel_rfl) (fun _ _ _ h => h) (Or.inl ⟨by kernel_rfl, ?_⟩) (by assumption) ?_; rotate_left; focus (intro W0 hSw; have hcS := (bcell hSw).1; go_simp; (try with_reducible rfl)); (try simp only [Act.put, List.setIfInBounds_toArray, List.set_cons_zero, List.set_cons_succ])
  refine wpAnyH_take (i := 1) (oi := ⟨some 53, _, _, _, _, _⟩) (v := ?_) rfl (by kernel_rfl) (by kernel_rfl) (by kernel_rfl) (fun _ _ _ h => h) (Or.inl ⟨by kernel_rfl, ?_⟩) (by assumption) ?_; rotate_left; focus (intro W0 hSw; have hcS := (bcell hSw).1; go_simp; (try with_reducible rfl)); (try simp only [Act.put, List.setIfInBounds_toArray, List.set_cons_zero, List.set_cons_succ])
  refine wpAnyH_ready (rs := [2]) (by kernel_rfl) (by simp) ?_; refine (AllReadyH.cons (o := ⟨some 54, _, _, _, _, _⟩) rfl (fun K hK => ?_) AllReadyH.nil)
  go_simp; (first | (go_at_call 13; (with_reducible refine (HC.out _ (bstep HE.out (by repeat (first | with_reducible exact Below.refl _ _ | with_reducible assumption | with_reducible refine Below.drew ?_ | with_reducible refine below_drewN ?_ _ | with_reducible refine Below.setCell ?_ (by first | exact Nat.le_refl _ | (simp; done) | (simp; omega) | (dsimp only; omega)) _ | with_reducible refine Below.alloc ?_ (by first | exact Nat.le_refl _ | (simp; done) | (simp; omega) | (simp at *; omega)) _ | with_reducible refine bstep ?_ (by assumption))))).mono ?_); rintro e w9 ⟨gc, rfl, hrow, hmine, hge, hgl, hb⟩; have Hgc := hide hrow; clear hrow hmine hge hgl; obtain ⟨hc, hf⟩ := bcell hb; have hzq := hb.size; (try simp at hzq)) | (go_at_call 16; (with_reducible refine (laws_eqCourse ax ay bx bY cx cy dx dy _ _ n _ _ N X Y S Z _ (RowAt.later (show Below wE.heap.size wE _ from hHeld) P1E.out) (RowAt.later (by first | with_reducible assumption | with_reducible exact Below.refl _ _ | exact (by repeat (first | with_reducible exact Below.refl _ _ | with_reducible assumption | with_reducible refine Below.drew ?_ | with_reducible refine below_drewN ?_ _ | with_reducible refine Below.setCell ?_ (by first | exact Nat.le_refl _ | (simp; done) | (simp; omega) | (dsimp only; omega)) _ | with_reducible refine Below.alloc ?_ (by first | exact Nat.le_refl _ | (simp; done) | (simp; omega) | (simp at *; omega)) _ | with_reducible refine bstep ?_ (by assumption)))) Hgc.out) hn).mono ?_); rintro e w9 ⟨rfl, hb⟩; obtain ⟨hc, hf⟩ := bcell hb))
  all_goals (try go_wp2_with fail)
  refine hK.out _ _ ?_ (fun hH2 => ?_)
  · first | exact bstep hHeld hb | exact hHeld.trans hb | exact hHeld
  clear hK K hHeld; (have hHeld := hH2); clear hH2; (try simp only [Act.put, List.setIfInBounds_toArray, List.set_cons_zero, List.set_cons_succ])
  refine wpAnyH_ready (rs := [3]) (by kernel_rfl) (by simp) ?_; refine (AllReadyH.cons (o := ⟨some 55, _, _, _, _, _⟩) rfl (fun K hK => ?_) AllReadyH.nil)
  go_simp; (first | (go_at_call 13; (with_reducible refine (HC.out _ (bstep HE.out (by repeat (first | with_reducible exact Below.refl _ _ | with_reducible assumption | with_reducible refine Below.drew ?_ | with_reducible refine below_drewN ?_ _ | with_reducible refine Below.setCell ?_ (by first | exact Nat.le_refl _ | (simp; done) | (simp; omega) | (dsimp only; omega)) _ | with_reducible refine Below.alloc ?_ (by first | exact Nat.le_refl _ | (simp; done) | (simp; omega) | (simp at *; omega)) _ | with_reducible refine bstep ?_ (by assumption))))).mono ?_); rintro e w9 ⟨gc, rfl, hrow, hmine, hge, hgl, hb⟩; have Hgc := hide hrow; clear hrow hmine hge hgl; obtain ⟨hc, hf⟩ := bcell hb; have hzq := hb.size; (try simp at hzq)) | (go_at_call 16; (with_reducible refine (laws_eqCourse ax ay bx bY cx cy dx dy _ _ n _ _ N X Y S Z _ (RowAt.later (show Below wE.heap.size wE _ from hHeld) P1E.out) (RowAt.later (by first | with_reducible assumption | with_reducible exact Below.refl _ _ | exact (by repeat (first | with_reducible exact Below.refl _ _ | with_reducible assumption | with_reducible refine Below.drew ?_ | with_reducible refine below_drewN ?_ _ | with_reducible refine Below.setCell ?_ (by first | exact Nat.le_refl _ | (simp; done) | (simp; omega) | (dsimp only; omega)) _ | with_reducible refine Below.alloc ?_ (by first | exact Nat.le_refl _ | (simp; done) | (simp; omega) | (simp at *; omega)) _ | with_reducible refine bstep ?_ (by assumption)))) Hgc.out) hn).mono ?_); rintro e w9 ⟨rfl, hb⟩; obtain ⟨hc, hf⟩ := bcell hb))
  all_goals (try go_wp2_with fail)
  refine hK.out _ _ ?_ (fun hH2 => ?_)
  · first | exact bstep hHeld hb | exact hHeld.trans hb | exact hHeld
  clear hK K hHeld; (have hHeld := hH2); clear hH2; (try simp only [Act.put, List.setIfInBounds_toArray, List.set_cons_zero, List.set_cons_succ])
  refine wpAnyH_take (i := 4) (oi := ⟨some 56, _, _, _, _, _⟩) (v := ?_) rfl (by kernel_rfl) (by kernel_rfl) (by kernel_rfl) (fun _ _ _ h => h) (Or.inl ⟨by kernel_rfl, ?_⟩) (by assumption) ?_; rotate_left; focus (intro W0 hSw; go_simp; (try with_reducible rfl)); (try simp only [Act.put, List.setIfInBounds_toArray, List.set_cons_zero, List.set_cons_succ])
  refine wpAnyH_done (by kernel_rfl) ?_ _; (try simp only [Act.put, List.setIfInBounds_toArray, List.set_cons_zero, List.set_cons_succ])
  have HF := hide (bstep HE.out hHeld)
  have HtF := hide (Trs.later hHeld HtE.out)
  clear o0 o1 o2 o3 o4 o5 o6 o7 o8 p0 p1 p2 p3 p4 p5 p6 p7 p8 hb hc hf hHeld HE HtE P0E P1E d0E
  go_wp2_with fail; (with_reducible refine (HT.out _ HF.out).mono ?_); rintro e wG ⟨gt3, G3, rfl, ht, hb⟩
  have HtG := hide (Trs.later hb HtF.out)
  have Ht3 := hide ht
  have HG := hide (bstep HF.out hb)
  clear ht hb HF HtF
  go_wp2_with fail; (with_reducible refine (HQ.out _ _ _ _ _ _ _ _ _ HtG.out Ht3.out).mono ?_); rintro e wH ⟨rfl, hb⟩
  go_wp2
  go_ret
  exact ⟨rfl, bstep HG.out hb⟩

set_option maxRecDepth 100000 in
theorem FnExactFirstToZone_lifted (os : Os) (started : os.Started) (H : Type) (enc : TypeId × Value → H) :
    ReturnsInHanded {} Tryd.checked os 9 .any (fun w args => (Rows.fnExactFirstToZoneSpec.pre enc Tryd.prog Tryd.f9 [] false w args ∧ laidMetH Tryd.prog Rows.fnExactFirstToZoneRow.laid w) ∧ sizedMet enc Tryd.prog Tryd.f9 (OpenSpec.ofChange Rows.fnExactFirstToZoneSpec) false w args) (Rows.fnExactFirstToZoneSpec.post enc Tryd.prog Tryd.f9 false true false false) := by
  refine returnsInHanded_of_change_and (C := Tryd.checked) (X := fun w _ => laidMetH Tryd.prog Rows.fnExactFirstToZoneRow.laid w) (fun _ _ _ hh h => h.of_heap hh) Tryd.own started (by as_aux_lemma => kernel_rfl) Tryd.func9
    (ChangeSpec.witness_shaped (enc := enc) (C := Tryd.checked) (os := os) (X := fun w _ => laidMetH Tryd.prog Rows.fnExactFirstToZoneRow.laid w) false (World.laidAll Tryd.prog os Rows.fnExactFirstToZoneRow.laid) #[.agg #[.int .i64 0, .int .i64 0, .int .i64 0, .int .i64 0, .int .i64 0, .int .i64 0, .int .i64 0, .int .i64 0, .slice none 0 0], .int .i64 0, .slice none 0 0] 8 (World.laidAll_os _ _ _) (World.shaped_of_ZipB (by as_aux_lemma => kernel_rfl) (by as_aux_lemma => kernel_rfl)) (by as_aux_lemma => kernel_rfl) (by as_aux_lemma => kernel_rfl) (by as_aux_lemma => kernel_rfl) (by rw [MakeChecks.laidMetH_plain _ _ _ (by as_aux_lemma => kernel_rfl)]; exact laidMet_laidAll _ (by as_aux_lemma => kernel_rfl) (by as_aux_lemma => kernel_rfl))) ?_
  intro W base args ds gs before hval0 hW _ _ hL _
  have hval : ∀ (j : Nat) t v, Tryd.f9.params[j]? = some t → args[j]? = some v → Value.okWide Tryd.prog W .any base t v := hval0
  have hW' := hW
  obtain ⟨p, q, hA0, hV, rfl, _, _⟩ := hW
  have hA : DataW.TrodAll enc Tryd.prog W 0 (fun _ => true) true Tryd.f9.params.toList args.toList ds p := hA0
  rw [Tryd.params9] at hA hval
  obtain ⟨v0, vs0, d0, ds0, p0, q0, hargs, rfl, rfl, h0, r0⟩ := trodAll_cons hA
  obtain ⟨v1, vs1, d1, ds1, p1, q1, rfl, rfl, rfl, h1, r1⟩ := trodAll_cons r0
  obtain ⟨v2, vs2, d2, ds2, p2, q2, rfl, rfl, rfl, h2, r2⟩ := trodAll_cons r1
  obtain ⟨rfl, rfl, rfl⟩ := trodAll_nil r2
  obtain rfl : args = #[v0, v1, v2] := by cases args; simp_all
  obtain ⟨ax0, ay0, bx0, bY0, cx0, cy0, dx0, dy0, so0, n0, cp0, N0, X0, Y0, S0, Z0, rfl, hl0, hr0, hN0⟩ := op_course (hval 0 28 v0 rfl rfl) h0
  obtain ⟨a1, rfl, _, _, _⟩ := open_int Tryd.underlying2 (hval 1 2 v1 rfl rfl) h1
  obtain ⟨so2, n2, cp2, A2, M2, C2, T2, U2, V2, rfl, hl2, hr2, hM2⟩ := op_tracks (hval 2 61 v2 rfl rfl) h2
  obtain ⟨rfl, rfl⟩ := trodVars_none hV
  refine (laws_FnExactFirstToZone ax0 ay0 bx0 bY0 cx0 cy0 dx0 dy0 so0 n0 cp0 N0 X0 Y0 S0 Z0 a1 so2 n2 cp2 A2 M2 C2 T2 U2 V2 W hl0 hr0 hN0 hl2 hr2 hM2).mono fun e W1 ⟨he, hb⟩ => ⟨_, he, ?_⟩
  exact law_post Tryd.laidOut (by as_aux_lemma => kernel_rfl) Tryd.underlying4 rfl rfl hW' rfl rfl rfl hb
set_option maxHeartbeats 8000000 in
theorem FnExactFirstToZone_closed : joinedFacts Tryd.prog 9 Tryd.f9 Rows.fnExactFirstToZoneSpec Rows.fnExactFirstToZoneRow = true := by
  simp only [joinedFacts, Bool.and_eq_true, Tryd.laidOut, Tryd.mapsRowed, Tryd.stopsNone, Tryd.stopKnobsNone, Tryd.plainKeysIs, Tryd.stopsHeardIs, Tryd.mayEnterIs, Tryd.liftsFinalIs, Tryd.makeIs, and_true, true_and]
  repeat' (with_reducible refine And.intro ?_ ?_)
  all_goals (as_aux_lemma => kernel_rfl)
set_option maxHeartbeats 8000000 in
/-- FnExactFirstToZone: whatever the input, the law returns true, and the input reads as it did. -/
theorem FnExactFirstToZone_row : Rows.FnExactFirstToZoneSaid :=
  OpenClaim.holds_of_wide 9 Tryd.f9 rfl rfl rfl rfl rfl rfl rfl ⟨rfl, rfl, rfl, rfl, rfl⟩ rfl rfl rfl rfl rfl (by as_aux_lemma => kernel_rfl) Tryd.func9
    FnExactFirstToZone_closed
    (of_decide_eq_true (by as_aux_lemma => kernel_rfl)) (by unfold Func.isWrapper; rw [if_neg (of_decide_eq_false (by as_aux_lemma => kernel_rfl))]; exact ⟨rfl, rfl⟩)
    (fun os started H enc _ => FnExactFirstToZone_lifted os started H enc)

set_option maxHeartbeats 8000000 in
/-- FnExactFirstToZone: the tied card. -/
theorem FnExactFirstToZone_holds : Rows.FnExactFirstToZoneCardSaid :=
  Claim7.holds_tied_plain_at .later [] [.data, .pinned] true (true, "ca9a4e23d7f36c513275cf82dd97f656732b604b2576d0f00648b839f14d2e02") false
    FnExactFirstToZone_row (fun _ h => by cases h) (by as_aux_lemma => kernel_rfl) (fun _ h => by cases h) fnExactFirstToZone_row_tie rfl ⟨rfl, rfl⟩ (by as_aux_lemma => kernel_rfl) rfl
    (fun f fn hf hfn => by
      obtain rfl : f = 9 := Option.some.inj ((show Tryd.prog.funcNamed Rows.fnExactFirstToZoneRow.func = some 9 by kernel_rfl).symm.trans hf) |>.symm
      obtain rfl : fn = Tryd.f9 := (Option.some.inj (Tryd.func9.symm.trans hfn)).symm
      exact ⟨by kernel_rfl, fun j t ht => by
        rw [Tryd.params9] at ht
        have hm : t ∈ [28, 2, 61] := by simpa using Array.mem_of_getElem? ht
        have hall : ([28, 2, 61].all fun u => !Tryd.prog.wantsStandIn u) = true := by kernel_rfl
        exact (show Tryd.prog.wantsStandIn t = false by simpa using List.all_eq_true.1 hall t hm)⟩)
    (by as_aux_lemma => kernel_rfl)
#print axioms FnExactFirstToZone_holds
end Go.Proofs.YtlllfklehbjneaaDoor
