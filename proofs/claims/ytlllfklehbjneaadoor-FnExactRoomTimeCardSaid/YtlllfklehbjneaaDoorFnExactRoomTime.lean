/- RoomTime of the program returns what the reference's returns, for every course, mark and two tracks. What the program's text lays in the library's table is all that the card takes. -/
import Derived.Test.YtlllfklehbjneaaDoorZc
import Derived.Test.YtlllfklehbjneaaDoorBs
import Derived.Test.YtlllfklehbjneaaDoorCd
import Derived.Test.YtlllfklehbjneaaDoorLaw
import Derived.Test.YtlllfklehbjneaaDoorTie
import Derived.Test.YtlllfklehbjneaaDoorCards
import Derived.Lay
import Derived.LaidMore
import Derived.OpenShut
import Derived.ChangeMaps5
import Derived.Stop.Joined
import Derived.SevenTiedAt
import Derived.Deep.DeepCutAuto
namespace Go.Proofs.YtlllfklehbjneaaDoor
open Go.ChangeShapes Go.WideShapes Go.ChangeAt Go.RowKit

set_option maxRecDepth 100000 in
set_option maxHeartbeats 16000000 in
theorem laws_FnExactRoomTime (ax ay bx bY cx cy dx dy : Int) (so : Option Addr) (n cap : Nat) (N : Nat → ByteArray) (X Y S Z : Nat → Int) (k : Int) (so2 : Option Addr) (n2 cap2 : Nat) (T U V : Nat → Int) (so3 : Option Addr) (n3 cap3 : Nat) (T3 U3 V3 : Nat → Int) (w : World) (hl : n ≤ maxLen) (h : RowAt w so n 5 (v5 N X Y S Z)) (hN : ∀ i, (N i).size ≤ maxLen) (hl2 : n2 ≤ maxLen) (h2 : RowAt w so2 n2 3 (v3 T U V)) (hl3 : n3 ≤ maxLen) (h3 : RowAt w so3 n3 3 (v3 T3 U3 V3)) :
    Calls Tryd.prog 8 #[.agg #[.int .i64 ax, .int .i64 ay, .int .i64 bx, .int .i64 bY, .int .i64 cx, .int .i64 cy, .int .i64 dx, .int .i64 dy, .slice so n cap], .int .i64 k, .agg #[.slice so2 n2 cap2], .agg #[.slice so3 n3 cap3]] w fun e w' => e = .returned (.bool true) ∧ Below w.heap.size w w' := by
  have KZ := hide (fun W (hb : Below w.heap.size w W) => laws_szCourse ax ay bx bY cx cy dx dy so n cap N X Y S Z 1048576 W (RowAt.later hb h) hN hl (by decide) (by decide))
  unfold maxLen at hl hl2 hl3
  have Hh := hide h
  have Hh2 := hide h2
  have Hh3 := hide h3
  clear h h2 h3 hN
  go_enter Tryd.func8, Tryd.ntmps8
  go_wp2_with fail; (with_reducible refine (KZ.out _ (by repeat (first | with_reducible exact Below.refl _ _ | with_reducible assumption | with_reducible refine Below.drew ?_ | with_reducible refine below_drewN ?_ _ | with_reducible refine Below.setCell ?_ (by first | exact Nat.le_refl _ | (simp; done) | (simp; omega) | (dsimp only; omega)) _ | with_reducible refine Below.alloc ?_ (by first | exact Nat.le_refl _ | (simp; done) | (simp; omega) | (simp at *; omega)) _ | with_reducible refine bstep ?_ (by assumption)))).mono ?_); rintro e w1 ⟨x, rfl, hq, hb⟩; obtain ⟨hc, hf⟩ := bcell hb; have hz := hb.size; have z0 : w.heap.size < w1.heap.size := (by first | omega | (simp at hz; omega)); have z1 : w.heap.size + 1 < w1.heap.size := (by first | omega | (simp at hz; omega)); have z2 : w.heap.size + 1 + 1 < w1.heap.size := (by first | omega | (simp at hz; omega))
  rcases hq with rfl | ⟨k1, k2, k3⟩
  · go_wp2
    go_ret
    exact ⟨rfl, (by repeat (first | with_reducible exact Below.refl _ _ | with_reducible assumption | with_reducible refine Below.drew ?_ | with_reducible refine below_drewN ?_ _ | with_reducible refine Below.setCell ?_ (by first | exact Nat.le_refl _ | (simp; done) | (simp; omega) | (dsimp only; omega)) _ | with_reducible refine Below.alloc ?_ (by first | exact Nat.le_refl _ | (simp; done) | (simp; omega) | (simp at *; omega)) _ | with_reducible refine bstep ?_ (by assumption)))⟩
  by_cases hn2 : (n2 : Int) ≤ x
  case neg =>
    go_wp2_with (go_at_call 11; (with_reducible refine (laws_szTrack_no so2 n2 cap2 _ _ (by omega) (by omega) (by omega)).mono ?_); rintro e w9 ⟨rfl, hb⟩; obtain ⟨hc, hf⟩ := bcell hb; have hz := hb.size; have z0 : w.heap.size < w9.heap.size := (by first | omega | (simp at hz; omega)); have z1 : w.heap.size + 1 < w9.heap.size := (by first | omega | (simp at hz; omega)); have z2 : w.heap.size + 1 + 1 < w9.heap.size := (by first | omega | (simp at hz; omega)))
    go_ret
    exact ⟨rfl, (by repeat (first | with_reducible exact Below.refl _ _ | with_reducible assumption | with_reducible refine Below.drew ?_ | with_reducible refine below_drewN ?_ _ | with_reducible refine Below.setCell ?_ (by first | exact Nat.le_refl _ | (simp; done) | (simp; omega) | (dsimp only; omega)) _ | with_reducible refine Below.alloc ?_ (by first | exact Nat.le_refl _ | (simp; done) | (simp; omega) | (simp at *; omega)) _ | with_reducible refine bstep ?_ (by assumption)))⟩
  by_cases hn3x : (n3 : Int) ≤ x - n2
  case neg =>
    go_wp2_with (first | (go_at_call 11; (with_reducible refine (laws_szTrack_yes so2 n2 cap2 _ _ (by omega) (by omega)).mono ?_); rintro e w9 ⟨rfl, hb⟩; obtain ⟨hc, hf⟩ := bcell hb; have hz := hb.size; have z0 : w.heap.size < w9.heap.size := (by first | omega | (simp at hz; omega)); have z1 : w.heap.size + 1 < w9.heap.size := (by first | omega | (simp at hz; omega)); have z2 : w.heap.size + 1 + 1 < w9.heap.size := (by first | omega | (simp at hz; omega))) | (go_at_call 11; (with_reducible refine (laws_szTrack_no so3 n3 cap3 _ _ (by omega) (by omega) (by omega)).mono ?_); rintro e w9 ⟨rfl, hb⟩; obtain ⟨hc, hf⟩ := bcell hb; have hz := hb.size; have z0 : w.heap.size < w9.heap.size := (by first | omega | (simp at hz; omega)); have z1 : w.heap.size + 1 < w9.heap.size := (by first | omega | (simp at hz; omega)); have z2 : w.heap.size + 1 + 1 < w9.heap.size := (by first | omega | (simp at hz; omega))))
    go_ret
    exact ⟨rfl, (by repeat (first | with_reducible exact Below.refl _ _ | with_reducible assumption | with_reducible refine Below.drew ?_ | with_reducible refine below_drewN ?_ _ | with_reducible refine Below.setCell ?_ (by first | exact Nat.le_refl _ | (simp; done) | (simp; omega) | (dsimp only; omega)) _ | with_reducible refine Below.alloc ?_ (by first | exact Nat.le_refl _ | (simp; done) | (simp; omega) | (simp at *; omega)) _ | with_reducible refine bstep ?_ (by assumption)))⟩
  have hn : n ≤ 1048576 := by omega
  have hn2b : n2 ≤ 1048576 := by omega
  have hn3b : n3 ≤ 1048576 := by omega
  have HS := hide (fun W so cp so' cp' so'' cp'' (hr : RowAt W so n 5 (v5 N X Y S Z)) (hr' : RowAt W so' n2 3 (v3 T U V)) (hr'' : RowAt W so'' n3 3 (v3 T3 U3 V3)) => spec_RoomTime ax ay bx bY cx cy dx dy so n cp N X Y S Z k so' n2 cp' T U V so'' n3 cp'' T3 U3 V3 W hr hn hr' hn2b hr'' hn3b)
  have HI := hide (fun W so cp so' cp' so'' cp'' (hr : RowAt W so n 5 (v5 N X Y S Z)) (hcp : n ≤ cp) (hr' : RowAt W so' n2 3 (v3 T U V)) (hr'' : RowAt W so'' n3 3 (v3 T3 U3 V3)) => impl_RoomTime ax ay bx bY cx cy dx dy so n cp N X Y S Z k so' n2 cp' T U V so'' n3 cp'' T3 U3 V3 W hr hn hcp hr' hn2b hr'' hn3b)
  obtain ⟨r0, q0⟩ : ∃ x, x = sel (rmOk (isCo ax ay bx bY cx cy dx dy n N X Y S Z) (isTr n2 T U V) (isTr n3 T3 U3 V3) n k (rmT n2 T U V n3 T3 U3 V3 X Y Z k)) (rmT n2 T U V n3 T3 U3 V3 X Y Z k) 0 := ⟨_, rfl⟩
  obtain ⟨cd, q1⟩ : ∃ x, x = rmC (isCo ax ay bx bY cx cy dx dy n N X Y S Z) (isTr n2 T U V) (isTr n3 T3 U3 V3) n k (rmT n2 T U V n3 T3 U3 V3 X Y Z k) := ⟨_, rfl⟩
  rw [← q0, ← q1] at HS HI
  clear q0 q1 KZ
  go_upto_region 11 with (first | (go_at_call 11; (with_reducible refine (laws_szTrack_yes so2 n2 cap2 _ _ (by omega) (by omega)).mono ?_); rintro e w9 ⟨rfl, hb⟩; obtain ⟨hc, hf⟩ := bcell hb; have hz := hb.size; have z0 : w.heap.size < w9.heap.size := (by first | omega | (simp at hz; omega)); have z1 : w.heap.size + 1 < w9.heap.size := (by first | omega | (simp at hz; omega)); have z2 : w.heap.size + 1 + 1 < w9.heap.size := (by first | omega | (simp at hz; omega))) | (go_at_call 11; (with_reducible refine (laws_szTrack_yes so3 n3 cap3 _ _ (by omega) (by omega)).mono ?_); rintro e w9 ⟨rfl, hb⟩; obtain ⟨hc, hf⟩ := bcell hb; have hz := hb.size; have z0 : w.heap.size < w9.heap.size := (by first | omega | (simp at hz; omega)); have z1 : w.heap.size + 1 < w9.heap.size := (by first | omega | (simp at hz; omega)); have z2 : w.heap.size + 1 + 1 < w9.heap.size := (by first | omega | (simp at hz; omega))))
  obtain ⟨wA, rfl⟩ : ∃ W : World, W = w9 := ⟨_, rfl⟩
  have a0 := hide (show CoAt wA w.heap.size ax ay bx bY cx cy dx dy so n cap from ⟨by go_simp, by go_simp, by go_simp, by go_simp, by go_simp, by go_simp, by go_simp, by go_simp, by go_simp⟩)
  have a2 : wA.cell? ⟨w.heap.size + 1, 0, none⟩ = some (.slice so2 n2 cap2) := by go_simp
  have a3 : wA.cell? ⟨w.heap.size + 1 + 1, 0, none⟩ = some (.slice so3 n3 cap3) := by go_simp
  have HA := hide (show Below w.heap.size w wA from (by repeat (first | with_reducible exact Below.refl _ _ | with_reducible assumption | with_reducible refine Below.drew ?_ | with_reducible refine below_drewN ?_ _ | with_reducible refine Below.setCell ?_ (by first | exact Nat.le_refl _ | (simp; done) | (simp; omega) | (dsimp only; omega)) _ | with_reducible refine Below.alloc ?_ (by first | exact Nat.le_refl _ | (simp; done) | (simp; omega) | (simp at *; omega)) _ | with_reducible refine bstep ?_ (by assumption))))
  have hzA := World.block_lt_of_cell? _ _ a3
  simp only at hzA
  have zA0 : w.heap.size < wA.heap.size := by omega
  have zA1 : w.heap.size + 1 < wA.heap.size := by omega
  have HA1 := hide (RowAt.later HA.out Hh.out)
  have HA2 := hide (RowAt.later HA.out Hh2.out)
  have HA3 := hide (RowAt.later HA.out Hh3.out)
  clear hb hc hf hz z0 z1 z2 k1 k2 k3
  go_cut [10, 11] (fun s1 s2 W => s1 = .int .i64 r0 ∧ s2 = .int .i64 cd ∧ Below wA.heap.size wA W)
  case first =>
    obtain ⟨o0, o1, o2, o3, o4, o5, o6, o7, o8⟩ := a0.out
    refine wp_region_held_drew (S := fun W => Below wA.heap.size wA W) (by kernel_rfl) (Below.drew (Below.refl _ _)) (fun hHeld => ?_)
    refine wpAnyH_take (i := 0) (oi := ⟨some 33, _, _, _, _, _⟩) (v := ?_) rfl (by kernel_rfl) (by kernel_rfl) (by kernel_rfl) (fun _ _ _ h => h) (Or.inl ⟨by kernel_rfl, ?_⟩) (by assumption) ?_; rotate_left; focus (intro W0 hSw; have hcS := (bcell hSw).1; go_simp; (try with_reducible rfl)); (try simp only [Act.put, List.setIfInBounds_toArray, List.set_cons_zero, List.set_cons_succ])
    refine wpAnyH_take (i := 2) (oi := ⟨some 35, _, _, _, _, _⟩) (v := ?_) rfl (by kernel_rfl) (by kernel_rfl) (by kernel_rfl) (fun _ _ _ h => h) (Or.inl ⟨by kernel_rfl, ?_⟩) (by assumption) ?_; rotate_left; focus (intro W0 hSw; go_simp; (try with_reducible rfl)); (try simp only [Act.put, List.setIfInBounds_toArray, List.set_cons_zero, List.set_cons_succ])
    refine wpAnyH_take (i := 3) (oi := ⟨some 36, _, _, _, _, _⟩) (v := ?_) rfl (by kernel_rfl) (by kernel_rfl) (by kernel_rfl) (fun _ _ _ h => h) (Or.inl ⟨by kernel_rfl, ?_⟩) (by assumption) ?_; rotate_left; focus (intro W0 hSw; have hcS := (bcell hSw).1; go_simp; (try with_reducible rfl)); (try simp only [Act.put, List.setIfInBounds_toArray, List.set_cons_zero, List.set_cons_succ])
    refine wpAnyH_take (i := 5) (oi := ⟨some 38, _, _, _, _, _⟩) (v := ?_) rfl (by kernel_rfl) (by kernel_rfl) (by kernel_rfl) (fun _ _ _ h => h) (Or.inl ⟨by kernel_rfl, ?_⟩) (by assumption) ?_; rotate_left; focus (intro W0 hSw; have hcS := (bcell hSw).1; go_simp; (try with_reducible rfl)); (try simp only [Act.put, List.setIfInBounds_toArray, List.set_cons_zero, List.set_cons_succ])
    refine wpAnyH_ready (rs := [1]) (by kernel_rfl) (by simp) ?_; refine (AllReadyH.cons (o := ⟨some 34, _, _, _, _, _⟩) rfl (fun K hK => ?_) AllReadyH.nil)
    go_simp; (first | (go_at_call 13; (with_reducible refine (laws_toCourse ax ay bx bY cx cy dx dy so n cap N X Y S Z _ (RowAt.later (by repeat (first | with_reducible exact Below.refl _ _ | with_reducible assumption | with_reducible refine Below.drew ?_ | with_reducible refine below_drewN ?_ _ | with_reducible refine Below.setCell ?_ (by first | exact Nat.le_refl _ | (simp; done) | (simp; omega) | (dsimp only; omega)) _ | with_reducible refine Below.alloc ?_ (by first | exact Nat.le_refl _ | (simp; done) | (simp; omega) | (simp at *; omega)) _ | with_reducible refine bstep ?_ (by assumption))) HA1.out) hn).mono ?_); rintro e w9 ⟨gc, rfl, hrow, hmine, hge, hgl, hb⟩; have Hgc := hide hrow; clear hrow hmine hge hgl; obtain ⟨hc, hf⟩ := bcell hb; have hzq := hb.size; (try simp at hzq)) | (go_at_call 14; (with_reducible refine (laws_toTrack so2 n2 cap2 T U V _ (RowAt.later (by repeat (first | with_reducible exact Below.refl _ _ | with_reducible assumption | with_reducible refine Below.drew ?_ | with_reducible refine below_drewN ?_ _ | with_reducible refine Below.setCell ?_ (by first | exact Nat.le_refl _ | (simp; done) | (simp; omega) | (dsimp only; omega)) _ | with_reducible refine Below.alloc ?_ (by first | exact Nat.le_refl _ | (simp; done) | (simp; omega) | (simp at *; omega)) _ | with_reducible refine bstep ?_ (by assumption))) HA2.out) hn2b).mono ?_); rintro e w9 ⟨gt, rfl, hrow, hmine, hge, hgl, hb⟩; have Hgt2 := hide hrow; have Hgc := hide (RowAt.later hb Hgc.out); clear hrow hmine hge hgl; obtain ⟨hc, hf⟩ := bcell hb; have hzq := hb.size; (try simp at hzq)) | (go_at_call 14; (with_reducible refine (laws_toTrack so3 n3 cap3 T3 U3 V3 _ (RowAt.later (by repeat (first | with_reducible exact Below.refl _ _ | with_reducible assumption | with_reducible refine Below.drew ?_ | with_reducible refine below_drewN ?_ _ | with_reducible refine Below.setCell ?_ (by first | exact Nat.le_refl _ | (simp; done) | (simp; omega) | (dsimp only; omega)) _ | with_reducible refine Below.alloc ?_ (by first | exact Nat.le_refl _ | (simp; done) | (simp; omega) | (simp at *; omega)) _ | with_reducible refine bstep ?_ (by assumption))) HA3.out) hn3b).mono ?_); rintro e w9 ⟨gt, rfl, hrow, hmine, hge, hgl, hb⟩; have Hgt3 := hide hrow; have Hgc := hide (RowAt.later hb Hgc.out); have Hgt2 := hide (RowAt.later hb Hgt2.out); clear hrow hmine hge hgl; obtain ⟨hc, hf⟩ := bcell hb; have hzq := hb.size; (try simp at hzq)) | (go_at_call 27; (with_reducible refine (HS.out _ _ _ _ _ _ _ Hgc.out Hgt2.out Hgt3.out).mono ?_); rintro e w9 ⟨rfl, hb⟩; obtain ⟨hc, hf⟩ := bcell hb))
    all_goals (try go_wp2_with fail)
    refine hK.out _ _ ?_ (fun hH2 => ?_)
    · first | exact bstep hHeld hb | exact hHeld.trans hb | exact hHeld
    clear hK K hHeld; (have hHeld := hH2); clear hH2; (try simp only [Act.put, List.setIfInBounds_toArray, List.set_cons_zero, List.set_cons_succ])
    refine wpAnyH_ready (rs := [4]) (by kernel_rfl) (by simp) ?_; refine (AllReadyH.cons (o := ⟨some 37, _, _, _, _, _⟩) rfl (fun K hK => ?_) AllReadyH.nil)
    go_simp; (first | (go_at_call 13; (with_reducible refine (laws_toCourse ax ay bx bY cx cy dx dy so n cap N X Y S Z _ (RowAt.later (by repeat (first | with_reducible exact Below.refl _ _ | with_reducible assumption | with_reducible refine Below.drew ?_ | with_reducible refine below_drewN ?_ _ | with_reducible refine Below.setCell ?_ (by first | exact Nat.le_refl _ | (simp; done) | (simp; omega) | (dsimp only; omega)) _ | with_reducible refine Below.alloc ?_ (by first | exact Nat.le_refl _ | (simp; done) | (simp; omega) | (simp at *; omega)) _ | with_reducible refine bstep ?_ (by assumption))) HA1.out) hn).mono ?_); rintro e w9 ⟨gc, rfl, hrow, hmine, hge, hgl, hb⟩; have Hgc := hide hrow; clear hrow hmine hge hgl; obtain ⟨hc, hf⟩ := bcell hb; have hzq := hb.size; (try simp at hzq)) | (go_at_call 14; (with_reducible refine (laws_toTrack so2 n2 cap2 T U V _ (RowAt.later (by repeat (first | with_reducible exact Below.refl _ _ | with_reducible assumption | with_reducible refine Below.drew ?_ | with_reducible refine below_drewN ?_ _ | with_reducible refine Below.setCell ?_ (by first | exact Nat.le_refl _ | (simp; done) | (simp; omega) | (dsimp only; omega)) _ | with_reducible refine Below.alloc ?_ (by first | exact Nat.le_refl _ | (simp; done) | (simp; omega) | (simp at *; omega)) _ | with_reducible refine bstep ?_ (by assumption))) HA2.out) hn2b).mono ?_); rintro e w9 ⟨gt, rfl, hrow, hmine, hge, hgl, hb⟩; have Hgt2 := hide hrow; have Hgc := hide (RowAt.later hb Hgc.out); clear hrow hmine hge hgl; obtain ⟨hc, hf⟩ := bcell hb; have hzq := hb.size; (try simp at hzq)) | (go_at_call 14; (with_reducible refine (laws_toTrack so3 n3 cap3 T3 U3 V3 _ (RowAt.later (by repeat (first | with_reducible exact Below.refl _ _ | with_reducible assumption | with_reducible refine Below.drew ?_ | with_reducible refine below_drewN ?_ _ | with_reducible refine Below.setCell ?_ (by first | exact Nat.le_refl _ | (simp; done) | (simp; omega) | (dsimp only; omega)) _ | with_reducible refine Below.alloc ?_ (by first | exact Nat.le_refl _ | (simp; done) | (simp; omega) | (simp at *; omega)) _ | with_reducible refine bstep ?_ (by assumption))) HA3.out) hn3b).mono ?_); rintro e w9 ⟨gt, rfl, hrow, hmine, hge, hgl, hb⟩; have Hgt3 := hide hrow; have Hgc := hide (RowAt.later hb Hgc.out); have Hgt2 := hide (RowAt.later hb Hgt2.out); clear hrow hmine hge hgl; obtain ⟨hc, hf⟩ := bcell hb; have hzq := hb.size; (try simp at hzq)) | (go_at_call 27; (with_reducible refine (HS.out _ _ _ _ _ _ _ Hgc.out Hgt2.out Hgt3.out).mono ?_); rintro e w9 ⟨rfl, hb⟩; obtain ⟨hc, hf⟩ := bcell hb))
    all_goals (try go_wp2_with fail)
    refine hK.out _ _ ?_ (fun hH2 => ?_)
    · first | exact bstep hHeld hb | exact hHeld.trans hb | exact hHeld
    clear hK K hHeld; (have hHeld := hH2); clear hH2; (try simp only [Act.put, List.setIfInBounds_toArray, List.set_cons_zero, List.set_cons_succ])
    refine wpAnyH_ready (rs := [6]) (by kernel_rfl) (by simp) ?_; refine (AllReadyH.cons (o := ⟨some 39, _, _, _, _, _⟩) rfl (fun K hK => ?_) AllReadyH.nil)
    go_simp; (first | (go_at_call 13; (with_reducible refine (laws_toCourse ax ay bx bY cx cy dx dy so n cap N X Y S Z _ (RowAt.later (by repeat (first | with_reducible exact Below.refl _ _ | with_reducible assumption | with_reducible refine Below.drew ?_ | with_reducible refine below_drewN ?_ _ | with_reducible refine Below.setCell ?_ (by first | exact Nat.le_refl _ | (simp; done) | (simp; omega) | (dsimp only; omega)) _ | with_reducible refine Below.alloc ?_ (by first | exact Nat.le_refl _ | (simp; done) | (simp; omega) | (simp at *; omega)) _ | with_reducible refine bstep ?_ (by assumption))) HA1.out) hn).mono ?_); rintro e w9 ⟨gc, rfl, hrow, hmine, hge, hgl, hb⟩; have Hgc := hide hrow; clear hrow hmine hge hgl; obtain ⟨hc, hf⟩ := bcell hb; have hzq := hb.size; (try simp at hzq)) | (go_at_call 14; (with_reducible refine (laws_toTrack so2 n2 cap2 T U V _ (RowAt.later (by repeat (first | with_reducible exact Below.refl _ _ | with_reducible assumption | with_reducible refine Below.drew ?_ | with_reducible refine below_drewN ?_ _ | with_reducible refine Below.setCell ?_ (by first | exact Nat.le_refl _ | (simp; done) | (simp; omega) | (dsimp only; omega)) _ | with_reducible refine Below.alloc ?_ (by first | exact Nat.le_refl _ | (simp; done) | (simp; omega) | (simp at *; omega)) _ | with_reducible refine bstep ?_ (by assumption))) HA2.out) hn2b).mono ?_); rintro e w9 ⟨gt, rfl, hrow, hmine, hge, hgl, hb⟩; have Hgt2 := hide hrow; have Hgc := hide (RowAt.later hb Hgc.out); clear hrow hmine hge hgl; obtain ⟨hc, hf⟩ := bcell hb; have hzq := hb.size; (try simp at hzq)) | (go_at_call 14; (with_reducible refine (laws_toTrack so3 n3 cap3 T3 U3 V3 _ (RowAt.later (by repeat (first | with_reducible exact Below.refl _ _ | with_reducible assumption | with_reducible refine Below.drew ?_ | with_reducible refine below_drewN ?_ _ | with_reducible refine Below.setCell ?_ (by first | exact Nat.le_refl _ | (simp; done) | (simp; omega) | (dsimp only; omega)) _ | with_reducible refine Below.alloc ?_ (by first | exact Nat.le_refl _ | (simp; done) | (simp; omega) | (simp at *; omega)) _ | with_reducible refine bstep ?_ (by assumption))) HA3.out) hn3b).mono ?_); rintro e w9 ⟨gt, rfl, hrow, hmine, hge, hgl, hb⟩; have Hgt3 := hide hrow; have Hgc := hide (RowAt.later hb Hgc.out); have Hgt2 := hide (RowAt.later hb Hgt2.out); clear hrow hmine hge hgl; obtain ⟨hc, hf⟩ := bcell hb; have hzq := hb.size; (try simp at hzq)) | (go_at_call 27; (with_reducible refine (HS.out _ _ _ _ _ _ _ Hgc.out Hgt2.out Hgt3.out).mono ?_); rintro e w9 ⟨rfl, hb⟩; obtain ⟨hc, hf⟩ := bcell hb))
    all_goals (try go_wp2_with fail)
    refine hK.out _ _ ?_ (fun hH2 => ?_)
    · first | exact bstep hHeld hb | exact hHeld.trans hb | exact hHeld
    clear hK K hHeld; (have hHeld := hH2); clear hH2; (try simp only [Act.put, List.setIfInBounds_toArray, List.set_cons_zero, List.set_cons_succ])
    refine wpAnyH_ready (rs := [7]) (by kernel_rfl) (by simp) ?_; refine (AllReadyH.cons (o := ⟨some 40, _, _, _, _, _⟩) rfl (fun K hK => ?_) AllReadyH.nil)
    go_simp; (first | (go_at_call 13; (with_reducible refine (laws_toCourse ax ay bx bY cx cy dx dy so n cap N X Y S Z _ (RowAt.later (by repeat (first | with_reducible exact Below.refl _ _ | with_reducible assumption | with_reducible refine Below.drew ?_ | with_reducible refine below_drewN ?_ _ | with_reducible refine Below.setCell ?_ (by first | exact Nat.le_refl _ | (simp; done) | (simp; omega) | (dsimp only; omega)) _ | with_reducible refine Below.alloc ?_ (by first | exact Nat.le_refl _ | (simp; done) | (simp; omega) | (simp at *; omega)) _ | with_reducible refine bstep ?_ (by assumption))) HA1.out) hn).mono ?_); rintro e w9 ⟨gc, rfl, hrow, hmine, hge, hgl, hb⟩; have Hgc := hide hrow; clear hrow hmine hge hgl; obtain ⟨hc, hf⟩ := bcell hb; have hzq := hb.size; (try simp at hzq)) | (go_at_call 14; (with_reducible refine (laws_toTrack so2 n2 cap2 T U V _ (RowAt.later (by repeat (first | with_reducible exact Below.refl _ _ | with_reducible assumption | with_reducible refine Below.drew ?_ | with_reducible refine below_drewN ?_ _ | with_reducible refine Below.setCell ?_ (by first | exact Nat.le_refl _ | (simp; done) | (simp; omega) | (dsimp only; omega)) _ | with_reducible refine Below.alloc ?_ (by first | exact Nat.le_refl _ | (simp; done) | (simp; omega) | (simp at *; omega)) _ | with_reducible refine bstep ?_ (by assumption))) HA2.out) hn2b).mono ?_); rintro e w9 ⟨gt, rfl, hrow, hmine, hge, hgl, hb⟩; have Hgt2 := hide hrow; have Hgc := hide (RowAt.later hb Hgc.out); clear hrow hmine hge hgl; obtain ⟨hc, hf⟩ := bcell hb; have hzq := hb.size; (try simp at hzq)) | (go_at_call 14; (with_reducible refine (laws_toTrack so3 n3 cap3 T3 U3 V3 _ (RowAt.later (by repeat (first | with_reducible exact Below.refl _ _ | with_reducible assumption | with_reducible refine Below.drew ?_ | with_reducible refine below_drewN ?_ _ | with_reducible refine Below.setCell ?_ (by first | exact Nat.le_refl _ | (simp; done) | (simp; omega) | (dsimp only; omega)) _ | with_reducible refine Below.alloc ?_ (by first | exact Nat.le_refl _ | (simp; done) | (simp; omega) | (simp at *; omega)) _ | with_reducible refine bstep ?_ (by assumption))) HA3.out) hn3b).mono ?_); rintro e w9 ⟨gt, rfl, hrow, hmine, hge, hgl, hb⟩; have Hgt3 := hide hrow; have Hgc := hide (RowAt.later hb Hgc.out); have Hgt2 := hide (RowAt.later hb Hgt2.out); clear hrow hmine hge hgl; obtain ⟨hc, hf⟩ := bcell hb; have hzq := hb.size; (try simp at hzq)) | (go_at_call 27; (with_reducible refine (HS.out _ _ _ _ _ _ _ Hgc.out Hgt2.out Hgt3.out).mono ?_); rintro e w9 ⟨rfl, hb⟩; obtain ⟨hc, hf⟩ := bcell hb))
    all_goals (try go_wp2_with fail)
    refine hK.out _ _ ?_ (fun hH2 => ?_)
    · first | exact bstep hHeld hb | exact hHeld.trans hb | exact hHeld
    clear hK K hHeld; (have hHeld := hH2); clear hH2; (try simp only [Act.put, List.setIfInBounds_toArray, List.set_cons_zero, List.set_cons_succ])
    refine wpAnyH_take (i := 8) (oi := ⟨some 32, _, _, _, _, _⟩) (v := ?_) rfl (by kernel_rfl) (by kernel_rfl) (by kernel_rfl) (fun _ _ _ h => h) (Or.inl ⟨by kernel_rfl, ?_⟩) (by assumption) ?_; rotate_left; focus (intro W0 hSw; go_simp; (try with_reducible rfl)); (try simp only [Act.put, List.setIfInBounds_toArray, List.set_cons_zero, List.set_cons_succ])
    refine wpAnyH_take (i := 9) (oi := ⟨some 41, _, _, _, _, _⟩) (v := ?_) rfl (by kernel_rfl) (by kernel_rfl) (by kernel_rfl) (fun _ _ _ h => h) (Or.inl ⟨by kernel_rfl, ?_⟩) (by assumption) ?_; rotate_left; focus (intro W0 hSw; go_simp; (try with_reducible rfl)); (try simp only [Act.put, List.setIfInBounds_toArray, List.set_cons_zero, List.set_cons_succ])
    refine wpAnyH_take (i := 10) (oi := ⟨some 42, _, _, _, _, _⟩) (v := ?_) rfl (by kernel_rfl) (by kernel_rfl) (by kernel_rfl) (fun _ _ _ h => h) (Or.inl ⟨by kernel_rfl, ?_⟩) (by assumption) ?_; rotate_left; focus (intro W0 hSw; go_simp; (try with_reducible rfl)); (try simp only [Act.put, List.setIfInBounds_toArray, List.set_cons_zero, List.set_cons_succ])
    refine wpAnyH_take (i := 11) (oi := ⟨some 10, _, _, _, _, _⟩) (v := ?_) rfl (by kernel_rfl) (by kernel_rfl) (by kernel_rfl) (fun _ _ _ h => h) (Or.inl ⟨by kernel_rfl, ?_⟩) (by assumption) ?_; rotate_left; focus (intro W0 hSw; go_simp; (try with_reducible rfl)); (try simp only [Act.put, List.setIfInBounds_toArray, List.set_cons_zero, List.set_cons_succ])
    refine wpAnyH_take (i := 12) (oi := ⟨some 11, _, _, _, _, _⟩) (v := ?_) rfl (by kernel_rfl) (by kernel_rfl) (by kernel_rfl) (fun _ _ _ h => h) (Or.inl ⟨by kernel_rfl, ?_⟩) (by assumption) ?_; rotate_left; focus (intro W0 hSw; go_simp; (try with_reducible rfl)); (try simp only [Act.put, List.setIfInBounds_toArray, List.set_cons_zero, List.set_cons_succ])
    refine wpAnyH_done (by kernel_rfl) ?_ _; (try simp only [Act.put, List.setIfInBounds_toArray, List.set_cons_zero, List.set_cons_succ])
    go_wp2_with fail
    go_meet
    exact ⟨rfl, rfl, hHeld⟩
  case rest =>
  obtain ⟨rfl, rfl, rB⟩ := hcut
  obtain ⟨wB, rfl⟩ : ∃ W : World, W = wc := ⟨_, rfl⟩
  clear HA1 HA2 HA3
  have c0_1 := hide (CoAt.later rB a0.out)
  have c2_1 := cell_later rB a2
  have c3_1 := cell_later rB a3
  have H_1 := hide (bstep HA.out rB)
  have s_1 := rB.size
  have sw0_1 : w.heap.size < wB.heap.size := by omega
  have sw1_1 : w.heap.size + 1 < wB.heap.size := by omega
  have sw2_1 : w.heap.size + 1 + 1 < wB.heap.size := by omega
  clear a0 a2 a3 HA
  clear rB zA0 zA1
  have HB1 := hide (RowAt.later H_1.out Hh.out)
  have HB2 := hide (RowAt.later H_1.out Hh2.out)
  have HB3 := hide (RowAt.later H_1.out Hh3.out)
  go_upto_region 12 with fail
  go_cut [12] (fun s14 W => ∃ gx g1 : Nat, s14 = .pointer (some ⟨gx, 0, none⟩) ∧ CoAt W gx ax ay bx bY cx cy dx dy (some ⟨g1, 0, none⟩) n n ∧ RowAt W (some ⟨g1, 0, none⟩) n 5 (v5 N X Y S Z) ∧ gx < W.heap.size ∧ Below wB.heap.size wB W)
  case first =>
    obtain ⟨o0, o1, o2, o3, o4, o5, o6, o7, o8⟩ := c0_1.out
    go_wp2_with (go_at_call 13; (with_reducible refine (laws_toCourse ax ay bx bY cx cy dx dy so n cap N X Y S Z _ (RowAt.later (by repeat (first | with_reducible exact Below.refl _ _ | with_reducible assumption | with_reducible refine Below.drew ?_ | with_reducible refine below_drewN ?_ _ | with_reducible refine Below.setCell ?_ (by first | exact Nat.le_refl _ | (simp; done) | (simp; omega) | (dsimp only; omega)) _ | with_reducible refine Below.alloc ?_ (by first | exact Nat.le_refl _ | (simp; done) | (simp; omega) | (simp at *; omega)) _ | with_reducible refine bstep ?_ (by assumption))) HB1.out) hn).mono ?_); rintro e w9 ⟨gt2, rfl, hrow, hmine, hge, hgl, hb⟩; have Hrow := hide hrow; clear hrow hmine)
    go_meet
    exact ⟨w9.heap.size, gt2, rfl, ⟨by go_simp, by go_simp, by go_simp, by go_simp, by go_simp, by go_simp, by go_simp, by go_simp, by go_simp⟩, Hrow.out.later (Below.alloc (Below.refl _ _) (Nat.le_refl _) _), by simp, (by repeat (first | with_reducible exact Below.refl _ _ | with_reducible assumption | with_reducible refine Below.drew ?_ | with_reducible refine below_drewN ?_ _ | with_reducible refine Below.setCell ?_ (by first | exact Nat.le_refl _ | (simp; done) | (simp; omega) | (dsimp only; omega)) _ | with_reducible refine Below.alloc ?_ (by first | exact Nat.le_refl _ | (simp; done) | (simp; omega) | (simp at *; omega)) _ | with_reducible refine bstep ?_ (by assumption)))⟩
  case rest =>
  obtain ⟨gx, g1, rfl, p0, p1, p2, rC⟩ := hcut
  have P0 := hide p0
  have P1 := hide p1
  clear p0 p1
  obtain ⟨wC, rfl⟩ : ∃ W : World, W = wc := ⟨_, rfl⟩
  clear HB1 HB2 HB3
  have c0_2 := hide (CoAt.later rC c0_1.out)
  have c2_2 := cell_later rC c2_1
  have c3_2 := cell_later rC c3_1
  have H_2 := hide (bstep H_1.out rC)
  have s_2 := rC.size
  have sw0_2 : w.heap.size < wC.heap.size := by omega
  have sw1_2 : w.heap.size + 1 < wC.heap.size := by omega
  have sw2_2 : w.heap.size + 1 + 1 < wC.heap.size := by omega
  clear c0_1 c2_1 c3_1 H_1
  clear rC
  have HC1 := hide (RowAt.later H_2.out Hh.out)
  have HC2 := hide (RowAt.later H_2.out Hh2.out)
  have HC3 := hide (RowAt.later H_2.out Hh3.out)
  go_upto_region 13 with fail
  go_cut [13] (fun s14 W => ∃ gy g3 : Nat, s14 = .pointer (some ⟨gy, 0, none⟩) ∧ W.cell? ⟨gy, 0, none⟩ = some (.slice (some ⟨g3, 0, none⟩) n2 n2) ∧ RowAt W (some ⟨g3, 0, none⟩) n2 3 (v3 T U V) ∧ gy < W.heap.size ∧ Below wC.heap.size wC W)
  case first =>
    go_wp2_with (go_at_call 14; (with_reducible refine (laws_toTrack so2 n2 cap2 T U V _ (RowAt.later (by repeat (first | with_reducible exact Below.refl _ _ | with_reducible assumption | with_reducible refine Below.drew ?_ | with_reducible refine below_drewN ?_ _ | with_reducible refine Below.setCell ?_ (by first | exact Nat.le_refl _ | (simp; done) | (simp; omega) | (dsimp only; omega)) _ | with_reducible refine Below.alloc ?_ (by first | exact Nat.le_refl _ | (simp; done) | (simp; omega) | (simp at *; omega)) _ | with_reducible refine bstep ?_ (by assumption))) HC2.out) hn2b).mono ?_); rintro e w9 ⟨gt2, rfl, hrow, hmine, hge, hgl, hb⟩; have Hrow := hide hrow; clear hrow hmine)
    go_meet
    exact ⟨w9.heap.size, gt2, rfl, by go_simp, Hrow.out.later (Below.alloc (Below.refl _ _) (Nat.le_refl _) _), by simp, (by repeat (first | with_reducible exact Below.refl _ _ | with_reducible assumption | with_reducible refine Below.drew ?_ | with_reducible refine below_drewN ?_ _ | with_reducible refine Below.setCell ?_ (by first | exact Nat.le_refl _ | (simp; done) | (simp; omega) | (dsimp only; omega)) _ | with_reducible refine Below.alloc ?_ (by first | exact Nat.le_refl _ | (simp; done) | (simp; omega) | (simp at *; omega)) _ | with_reducible refine bstep ?_ (by assumption)))⟩
  case rest =>
  obtain ⟨gy, g3, rfl, Pcy, p1, p2, rC⟩ := hcut
  have Pr2 := hide p1
  clear p1
  obtain ⟨wD, rfl⟩ : ∃ W : World, W = wc := ⟨_, rfl⟩
  clear HC1 HC2 HC3
  have c0_3 := hide (CoAt.later rC c0_2.out)
  have c2_3 := cell_later rC c2_2
  have c3_3 := cell_later rC c3_2
  have H_3 := hide (bstep H_2.out rC)
  have cx_3 := hide (CoAt.later rC P0.out)
  have r1_3 := hide (RowAt.later rC P1.out)
  have s_3 := rC.size
  have sw0_3 : w.heap.size < wD.heap.size := by omega
  have sw1_3 : w.heap.size + 1 < wD.heap.size := by omega
  have sw2_3 : w.heap.size + 1 + 1 < wD.heap.size := by omega
  have sgx_3 : gx < wD.heap.size := by omega
  clear c0_2 c2_2 c3_2 H_2 P0 P1
  clear rC
  have HD1 := hide (RowAt.later H_3.out Hh.out)
  have HD2 := hide (RowAt.later H_3.out Hh2.out)
  have HD3 := hide (RowAt.later H_3.out Hh3.out)
  go_upto_region 14 with fail
  go_cut [14] (fun s14 W => ∃ gz g5 : Nat, s14 = .pointer (some ⟨gz, 0, none⟩) ∧ W.cell? ⟨gz, 0, none⟩ = some (.slice (some ⟨g5, 0, none⟩) n3 n3) ∧ RowAt W (some ⟨g5, 0, none⟩) n3 3 (v3 T3 U3 V3) ∧ gz < W.heap.size ∧ Below wD.heap.size wD W)
  case first =>
    go_wp2_with (go_at_call 14; (with_reducible refine (laws_toTrack so3 n3 cap3 T3 U3 V3 _ (RowAt.later (by repeat (first | with_reducible exact Below.refl _ _ | with_reducible assumption | with_reducible refine Below.drew ?_ | with_reducible refine below_drewN ?_ _ | with_reducible refine Below.setCell ?_ (by first | exact Nat.le_refl _ | (simp; done) | (simp; omega) | (dsimp only; omega)) _ | with_reducible refine Below.alloc ?_ (by first | exact Nat.le_refl _ | (simp; done) | (simp; omega) | (simp at *; omega)) _ | with_reducible refine bstep ?_ (by assumption))) HD3.out) hn3b).mono ?_); rintro e w9 ⟨gt2, rfl, hrow, hmine, hge, hgl, hb⟩; have Hrow := hide hrow; clear hrow hmine)
    go_meet
    exact ⟨w9.heap.size, gt2, rfl, by go_simp, Hrow.out.later (Below.alloc (Below.refl _ _) (Nat.le_refl _) _), by simp, (by repeat (first | with_reducible exact Below.refl _ _ | with_reducible assumption | with_reducible refine Below.drew ?_ | with_reducible refine below_drewN ?_ _ | with_reducible refine Below.setCell ?_ (by first | exact Nat.le_refl _ | (simp; done) | (simp; omega) | (dsimp only; omega)) _ | with_reducible refine Below.alloc ?_ (by first | exact Nat.le_refl _ | (simp; done) | (simp; omega) | (simp at *; omega)) _ | with_reducible refine bstep ?_ (by assumption)))⟩
  case rest =>
  obtain ⟨gz, g5, rfl, Pcz, p1, p2, rC⟩ := hcut
  have Pr3 := hide p1
  clear p1
  obtain ⟨wX, rfl⟩ : ∃ W : World, W = wc := ⟨_, rfl⟩
  clear HD1 HD2 HD3
  have c0_4 := hide (CoAt.later rC c0_3.out)
  have c2_4 := cell_later rC c2_3
  have c3_4 := cell_later rC c3_3
  have H_4 := hide (bstep H_3.out rC)
  have cx_4 := hide (CoAt.later rC cx_3.out)
  have r1_4 := hide (RowAt.later rC r1_3.out)
  have cy_4 := cell_later rC Pcy
  have r2_4 := hide (RowAt.later rC Pr2.out)
  have s_4 := rC.size
  have sw0_4 : w.heap.size < wX.heap.size := by omega
  have sw1_4 : w.heap.size + 1 < wX.heap.size := by omega
  have sw2_4 : w.heap.size + 1 + 1 < wX.heap.size := by omega
  have sgx_4 : gx < wX.heap.size := by omega
  have sgy_4 : gy < wX.heap.size := by omega
  clear c0_3 c2_3 c3_3 H_3 cx_3 r1_3 Pcy Pr2
  clear rC
  go_upto_region 15 with fail
  go_cut [15, 16] (fun s1 s2 W => s1 = .int .i64 r0 ∧ s2 = .int .i64 cd ∧ Below wX.heap.size wX W)
  case first =>
    obtain ⟨o0, o1, o2, o3, o4, o5, o6, o7, o8⟩ := cx_4.out
    go_wp2_with (go_at_call 28; (with_reducible refine (HI.out _ _ _ _ _ _ _ r1_4.out (Nat.le_refl _) r2_4.out Pr3.out).mono ?_); rintro e w9 ⟨rfl, hb⟩)
    go_meet
    exact ⟨rfl, rfl, hb⟩
  case rest =>
  obtain ⟨rfl, rfl, rD⟩ := hcut
  obtain ⟨wE, rfl⟩ : ∃ W : World, W = wc := ⟨_, rfl⟩
  have c0_5 := hide (CoAt.later rD c0_4.out)
  have c2_5 := cell_later rD c2_4
  have c3_5 := cell_later rD c3_4
  have H_5 := hide (bstep H_4.out rD)
  have cx_5 := hide (CoAt.later rD cx_4.out)
  have r1_5 := hide (RowAt.later rD r1_4.out)
  have cy_5 := cell_later rD cy_4
  have r2_5 := hide (RowAt.later rD r2_4.out)
  have cz_5 := cell_later rD Pcz
  have r3_5 := hide (RowAt.later rD Pr3.out)
  have s_5 := rD.size
  have sw0_5 : w.heap.size < wE.heap.size := by omega
  have sw1_5 : w.heap.size + 1 < wE.heap.size := by omega
  have sw2_5 : w.heap.size + 1 + 1 < wE.heap.size := by omega
  have sgx_5 : gx < wE.heap.size := by omega
  have sgy_5 : gy < wE.heap.size := by omega
  have sgz_5 : gz < wE.heap.size := by omega
  clear c0_4 c2_4 c3_4 H_4 cx_4 r1_4 cy_4 r2_4 Pcz Pr3
  clear rD
  have HE1 := hide (RowAt.later H_5.out Hh.out)
  have HE2 := hide (RowAt.later H_5.out Hh2.out)
  have HE3 := hide (RowAt.later H_5.out Hh3.out)
  go_upto_region 18 with fail
  obtain ⟨o0, o1, o2, o3, o4, o5, o6, o7, o8⟩ := c0_5.out
  obtain ⟨p0, p1, p2, p3, p4, p5, p6, p7, p8⟩ := cx_5.out
  refine wp_region_held_drew (S := fun W => Below wE.heap.size wE W) (by kernel_rfl) (Below.drew (Below.refl _ _)) (fun hHeld => ?_)
  refine wpAnyH_take (i := 0) (oi := ⟨some 65, _, _, _, _, _⟩) (v := ?_) rfl (by kernel_rfl) (by kernel_rfl) (by kernel_rfl) (fun _ _ _ h => h) (Or.inl ⟨by kernel_rfl, ?_⟩) (by assumption) ?_; rotate_left; focus (intro W0 hSw; have hcS := (bcell hSw).1; go_simp; (try with_reducible rfl)); (try simp only [Act.put, List.setIfInBounds_toArray, List.set_cons_zero, List.set_cons_succ])
  refine wpAnyH_take (i := 1) (oi := ⟨some 66, _, _, _, _, _⟩) (v := ?_) rfl (by kernel_rfl) (by kernel_rfl) (by kernel_rfl) (fun _ _ _ h => h) (Or.inl ⟨by kernel_rfl, ?_⟩) (by assumption) ?_; rotate_left; focus (intro W0 hSw; have hcS := (bcell hSw).1; go_simp; (try with_reducible rfl)); (try simp only [Act.put, List.setIfInBounds_toArray, List.set_cons_zero, List.set_cons_succ])
  refine wpAnyH_ready (rs := [2]) (by kernel_rfl) (by simp) ?_; refine (AllReadyH.cons (o := ⟨some 67, _, _, _, _, _⟩) rfl (fun K hK => ?_) AllReadyH.nil)
  go_simp; (first | (go_at_call 13; (with_reducible refine (laws_toCourse ax ay bx bY cx cy dx dy so n cap N X Y S Z _ (RowAt.later (by repeat (first | with_reducible exact Below.refl _ _ | with_reducible assumption | with_reducible refine Below.drew ?_ | with_reducible refine below_drewN ?_ _ | with_reducible refine Below.setCell ?_ (by first | exact Nat.le_refl _ | (simp; done) | (simp; omega) | (dsimp only; omega)) _ | with_reducible refine Below.alloc ?_ (by first | exact Nat.le_refl _ | (simp; done) | (simp; omega) | (simp at *; omega)) _ | with_reducible refine bstep ?_ (by assumption))) HE1.out) hn).mono ?_); rintro e w9 ⟨gc, rfl, hrow, hmine, hge, hgl, hb⟩; have Hgc := hide hrow; clear hrow hmine hge hgl; obtain ⟨hc, hf⟩ := bcell hb; have hzq := hb.size; (try simp at hzq)) | (go_at_call 16; (with_reducible refine (laws_eqCourse ax ay bx bY cx cy dx dy _ _ n _ _ N X Y S Z _ (RowAt.later (show Below wE.heap.size wE _ from hHeld) r1_5.out) (RowAt.later (by first | with_reducible assumption | with_reducible exact Below.refl _ _ | exact (by repeat (first | with_reducible exact Below.refl _ _ | with_reducible assumption | with_reducible refine Below.drew ?_ | with_reducible refine below_drewN ?_ _ | with_reducible refine Below.setCell ?_ (by first | exact Nat.le_refl _ | (simp; done) | (simp; omega) | (dsimp only; omega)) _ | with_reducible refine Below.alloc ?_ (by first | exact Nat.le_refl _ | (simp; done) | (simp; omega) | (simp at *; omega)) _ | with_reducible refine bstep ?_ (by assumption)))) Hgc.out) hn).mono ?_); rintro e w9 ⟨rfl, hb⟩; obtain ⟨hc, hf⟩ := bcell hb))
  all_goals (try go_wp2_with fail)
  refine hK.out _ _ ?_ (fun hH2 => ?_)
  · first | exact bstep hHeld hb | exact hHeld.trans hb | exact hHeld
  clear hK K hHeld; (have hHeld := hH2); clear hH2; (try simp only [Act.put, List.setIfInBounds_toArray, List.set_cons_zero, List.set_cons_succ])
  refine wpAnyH_ready (rs := [3]) (by kernel_rfl) (by simp) ?_; refine (AllReadyH.cons (o := ⟨some 68, _, _, _, _, _⟩) rfl (fun K hK => ?_) AllReadyH.nil)
  go_simp; (first | (go_at_call 13; (with_reducible refine (laws_toCourse ax ay bx bY cx cy dx dy so n cap N X Y S Z _ (RowAt.later (by repeat (first | with_reducible exact Below.refl _ _ | with_reducible assumption | with_reducible refine Below.drew ?_ | with_reducible refine below_drewN ?_ _ | with_reducible refine Below.setCell ?_ (by first | exact Nat.le_refl _ | (simp; done) | (simp; omega) | (dsimp only; omega)) _ | with_reducible refine Below.alloc ?_ (by first | exact Nat.le_refl _ | (simp; done) | (simp; omega) | (simp at *; omega)) _ | with_reducible refine bstep ?_ (by assumption))) HE1.out) hn).mono ?_); rintro e w9 ⟨gc, rfl, hrow, hmine, hge, hgl, hb⟩; have Hgc := hide hrow; clear hrow hmine hge hgl; obtain ⟨hc, hf⟩ := bcell hb; have hzq := hb.size; (try simp at hzq)) | (go_at_call 16; (with_reducible refine (laws_eqCourse ax ay bx bY cx cy dx dy _ _ n _ _ N X Y S Z _ (RowAt.later (show Below wE.heap.size wE _ from hHeld) r1_5.out) (RowAt.later (by first | with_reducible assumption | with_reducible exact Below.refl _ _ | exact (by repeat (first | with_reducible exact Below.refl _ _ | with_reducible assumption | with_reducible refine Below.drew ?_ | with_reducible refine below_drewN ?_ _ | with_reducible refine Below.setCell ?_ (by first | exact Nat.le_refl _ | (simp; done) | (simp; omega) | (dsimp only; omega)) _ | with_reducible refine Below.alloc ?_ (by first | exact Nat.le_refl _ | (simp; done) | (simp; omega) | (simp at *; omega)) _ | with_reducible refine bstep ?_ (by assumption)))) Hgc.out) hn).mono ?_); rintro e w9 ⟨rfl, hb⟩; obtain ⟨hc, hf⟩ := bcell hb))
  all_goals (try go_wp2_with fail)
  refine hK.out _ _ ?_ (fun hH2 => ?_)
  · first | exact bstep hHeld hb | exact hHeld.trans hb | exact hHeld
  clear hK K hHeld; (have hHeld := hH2); clear hH2; (try simp only [Act.put, List.setIfInBounds_toArray, List.set_cons_zero, List.set_cons_succ])
  refine wpAnyH_take (i := 4) (oi := ⟨some 69, _, _, _, _, _⟩) (v := ?_) rfl (by kernel_rfl) (by kernel_rfl) (by kernel_rfl) (fun _ _ _ h => h) (Or.inl ⟨by kernel_rfl, ?_⟩) (by assumption) ?_; rotate_left; focus (intro W0 hSw; go_simp; (try with_reducible rfl)); (try simp only [Act.put, List.setIfInBounds_toArray, List.set_cons_zero, List.set_cons_succ])
  refine wpAnyH_done (by kernel_rfl) ?_ _; (try simp only [Act.put, List.setIfInBounds_toArray, List.set_cons_zero, List.set_cons_succ])
  obtain ⟨wF, rfl⟩ : ∃ W : World, W = w9 := ⟨_, rfl⟩
  clear o0 o1 o2 o3 o4 o5 o6 o7 o8 p0 p1 p2 p3 p4 p5 p6 p7 p8 hb hc hf
  clear HE1 HE2 HE3
  have c2_6 := cell_later hHeld c2_5
  have c3_6 := cell_later hHeld c3_5
  have H_6 := hide (bstep H_5.out hHeld)
  have cy_6 := cell_later hHeld cy_5
  have r2_6 := hide (RowAt.later hHeld r2_5.out)
  have cz_6 := cell_later hHeld cz_5
  have r3_6 := hide (RowAt.later hHeld r3_5.out)
  have s_6 := hHeld.size
  have sw0_6 : w.heap.size < wF.heap.size := by omega
  have sw1_6 : w.heap.size + 1 < wF.heap.size := by omega
  have sw2_6 : w.heap.size + 1 + 1 < wF.heap.size := by omega
  have sgy_6 : gy < wF.heap.size := by omega
  have sgz_6 : gz < wF.heap.size := by omega
  clear c0_5 c2_5 c3_5 H_5 cx_5 r1_5 cy_5 r2_5 cz_5 r3_5
  clear hHeld
  have HF1 := hide (RowAt.later H_6.out Hh.out)
  have HF2 := hide (RowAt.later H_6.out Hh2.out)
  have HF3 := hide (RowAt.later H_6.out Hh3.out)
  go_upto_region 20 with fail
  refine wp_region_held_drew (S := fun W => Below wF.heap.size wF W) (by kernel_rfl) (Below.drew (Below.refl _ _)) (fun hHeld => ?_)
  refine wpAnyH_take (i := 0) (oi := ⟨some 70, _, _, _, _, _⟩) (v := ?_) rfl (by kernel_rfl) (by kernel_rfl) (by kernel_rfl) (fun _ _ _ h => h) (Or.inl ⟨by kernel_rfl, ?_⟩) (by assumption) ?_; rotate_left; focus (intro W0 hSw; have hcS := (bcell hSw).1; go_simp; (try with_reducible rfl)); (try simp only [Act.put, List.setIfInBounds_toArray, List.set_cons_zero, List.set_cons_succ])
  refine wpAnyH_take (i := 1) (oi := ⟨some 71, _, _, _, _, _⟩) (v := ?_) rfl (by kernel_rfl) (by kernel_rfl) (by kernel_rfl) (fun _ _ _ h => h) (Or.inl ⟨by kernel_rfl, ?_⟩) (by assumption) ?_; rotate_left; focus (intro W0 hSw; have hcS := (bcell hSw).1; go_simp; (try with_reducible rfl)); (try simp only [Act.put, List.setIfInBounds_toArray, List.set_cons_zero, List.set_cons_succ])
  refine wpAnyH_ready (rs := [2]) (by kernel_rfl) (by simp) ?_; refine (AllReadyH.cons (o := ⟨some 72, _, _, _, _, _⟩) rfl (fun K hK => ?_) AllReadyH.nil)
  go_simp; (first | (go_at_call 14; (with_reducible refine (laws_toTrack so2 n2 cap2 T U V _ (RowAt.later (by repeat (first | with_reducible exact Below.refl _ _ | with_reducible assumption | with_reducible refine Below.drew ?_ | with_reducible refine below_drewN ?_ _ | with_reducible refine Below.setCell ?_ (by first | exact Nat.le_refl _ | (simp; done) | (simp; omega) | (dsimp only; omega)) _ | with_reducible refine Below.alloc ?_ (by first | exact Nat.le_refl _ | (simp; done) | (simp; omega) | (simp at *; omega)) _ | with_reducible refine bstep ?_ (by assumption))) HF2.out) hn2b).mono ?_); rintro e w9 ⟨gt, rfl, hrow, hmine, hge, hgl, hb⟩; have Hgt2 := hide hrow; clear hrow hmine hge hgl; obtain ⟨hc, hf⟩ := bcell hb; have hzq := hb.size; (try simp at hzq)) | (go_at_call 17; (with_reducible refine (laws_eqTrack _ _ n2 _ _ T U V _ (RowAt.later (show Below wF.heap.size wF _ from hHeld) r2_6.out) (RowAt.later (by first | with_reducible assumption | with_reducible exact Below.refl _ _ | exact (by repeat (first | with_reducible exact Below.refl _ _ | with_reducible assumption | with_reducible refine Below.drew ?_ | with_reducible refine below_drewN ?_ _ | with_reducible refine Below.setCell ?_ (by first | exact Nat.le_refl _ | (simp; done) | (simp; omega) | (dsimp only; omega)) _ | with_reducible refine Below.alloc ?_ (by first | exact Nat.le_refl _ | (simp; done) | (simp; omega) | (simp at *; omega)) _ | with_reducible refine bstep ?_ (by assumption)))) Hgt2.out) hn2b).mono ?_); rintro e w9 ⟨rfl, hb⟩; obtain ⟨hc, hf⟩ := bcell hb))
  all_goals (try go_wp2_with fail)
  refine hK.out _ _ ?_ (fun hH2 => ?_)
  · first | exact bstep hHeld hb | exact hHeld.trans hb | exact hHeld
  clear hK K hHeld; (have hHeld := hH2); clear hH2; (try simp only [Act.put, List.setIfInBounds_toArray, List.set_cons_zero, List.set_cons_succ])
  refine wpAnyH_ready (rs := [3]) (by kernel_rfl) (by simp) ?_; refine (AllReadyH.cons (o := ⟨some 73, _, _, _, _, _⟩) rfl (fun K hK => ?_) AllReadyH.nil)
  go_simp; (first | (go_at_call 14; (with_reducible refine (laws_toTrack so2 n2 cap2 T U V _ (RowAt.later (by repeat (first | with_reducible exact Below.refl _ _ | with_reducible assumption | with_reducible refine Below.drew ?_ | with_reducible refine below_drewN ?_ _ | with_reducible refine Below.setCell ?_ (by first | exact Nat.le_refl _ | (simp; done) | (simp; omega) | (dsimp only; omega)) _ | with_reducible refine Below.alloc ?_ (by first | exact Nat.le_refl _ | (simp; done) | (simp; omega) | (simp at *; omega)) _ | with_reducible refine bstep ?_ (by assumption))) HF2.out) hn2b).mono ?_); rintro e w9 ⟨gt, rfl, hrow, hmine, hge, hgl, hb⟩; have Hgt2 := hide hrow; clear hrow hmine hge hgl; obtain ⟨hc, hf⟩ := bcell hb; have hzq := hb.size; (try simp at hzq)) | (go_at_call 17; (with_reducible refine (laws_eqTrack _ _ n2 _ _ T U V _ (RowAt.later (show Below wF.heap.size wF _ from hHeld) r2_6.out) (RowAt.later (by first | with_reducible assumption | with_reducible exact Below.refl _ _ | exact (by repeat (first | with_reducible exact Below.refl _ _ | with_reducible assumption | with_reducible refine Below.drew ?_ | with_reducible refine below_drewN ?_ _ | with_reducible refine Below.setCell ?_ (by first | exact Nat.le_refl _ | (simp; done) | (simp; omega) | (dsimp only; omega)) _ | with_reducible refine Below.alloc ?_ (by first | exact Nat.le_refl _ | (simp; done) | (simp; omega) | (simp at *; omega)) _ | with_reducible refine bstep ?_ (by assumption)))) Hgt2.out) hn2b).mono ?_); rintro e w9 ⟨rfl, hb⟩; obtain ⟨hc, hf⟩ := bcell hb))
  all_goals (try go_wp2_with fail)
  refine hK.out _ _ ?_ (fun hH2 => ?_)
  · first | exact bstep hHeld hb | exact hHeld.trans hb | exact hHeld
  clear hK K hHeld; (have hHeld := hH2); clear hH2; (try simp only [Act.put, List.setIfInBounds_toArray, List.set_cons_zero, List.set_cons_succ])
  refine wpAnyH_take (i := 4) (oi := ⟨some 74, _, _, _, _, _⟩) (v := ?_) rfl (by kernel_rfl) (by kernel_rfl) (by kernel_rfl) (fun _ _ _ h => h) (Or.inl ⟨by kernel_rfl, ?_⟩) (by assumption) ?_; rotate_left; focus (intro W0 hSw; go_simp; (try with_reducible rfl)); (try simp only [Act.put, List.setIfInBounds_toArray, List.set_cons_zero, List.set_cons_succ])
  refine wpAnyH_done (by kernel_rfl) ?_ _; (try simp only [Act.put, List.setIfInBounds_toArray, List.set_cons_zero, List.set_cons_succ])
  obtain ⟨wG, rfl⟩ : ∃ W : World, W = w9 := ⟨_, rfl⟩
  clear hb hc hf
  clear HF1 HF2 HF3
  have c3_7 := cell_later hHeld c3_6
  have H_7 := hide (bstep H_6.out hHeld)
  have cz_7 := cell_later hHeld cz_6
  have r3_7 := hide (RowAt.later hHeld r3_6.out)
  have s_7 := hHeld.size
  have sw0_7 : w.heap.size < wG.heap.size := by omega
  have sw1_7 : w.heap.size + 1 < wG.heap.size := by omega
  have sw2_7 : w.heap.size + 1 + 1 < wG.heap.size := by omega
  have sgz_7 : gz < wG.heap.size := by omega
  clear c2_6 c3_6 H_6 cy_6 r2_6 cz_6 r3_6
  clear hHeld
  have HG1 := hide (RowAt.later H_7.out Hh.out)
  have HG2 := hide (RowAt.later H_7.out Hh2.out)
  have HG3 := hide (RowAt.later H_7.out Hh3.out)
  go_upto_region 22 with fail
  refine wp_region_held_drew (S := fun W => Below wG.heap.size wG W) (by kernel_rfl) (Below.drew (Below.refl _ _)) (fun hHeld => ?_)
  refine wpAnyH_take (i := 0) (oi := ⟨some 75, _, _, _, _, _⟩) (v := ?_) rfl (by kernel_rfl) (by kernel_rfl) (by kernel_rfl) (fun _ _ _ h => h) (Or.inl ⟨by kernel_rfl, ?_⟩) (by assumption) ?_; rotate_left; focus (intro W0 hSw; have hcS := (bcell hSw).1; go_simp; (try with_reducible rfl)); (try simp only [Act.put, List.setIfInBounds_toArray, List.set_cons_zero, List.set_cons_succ])
  refine wpAnyH_take (i := 1) (oi := ⟨some 76, _, _, _, _, _⟩) (v := ?_) rfl (by kernel_rfl) (by kernel_rfl) (by kernel_rfl) (fun _ _ _ h => h) (Or.inl ⟨by kernel_rfl, ?_⟩) (by assumption) ?_; rotate_left; focus (intro W0 hSw; have hcS := (bcell hSw).1; go_simp; (try with_reducible rfl)); (try simp only [Act.put, List.setIfInBounds_toArray, List.set_cons_zero, List.set_cons_succ])
  refine wpAnyH_ready (rs := [2]) (by kernel_rfl) (by simp) ?_; refine (AllReadyH.cons (o := ⟨some 77, _, _, _, _, _⟩) rfl (fun K hK => ?_) AllReadyH.nil)
  go_simp; (first | (go_at_call 14; (with_reducible refine (laws_toTrack so3 n3 cap3 T3 U3 V3 _ (RowAt.later (by repeat (first | with_reducible exact Below.refl _ _ | with_reducible assumption | with_reducible refine Below.drew ?_ | with_reducible refine below_drewN ?_ _ | with_reducible refine Below.setCell ?_ (by first | exact Nat.le_refl _ | (simp; done) | (simp; omega) | (dsimp only; omega)) _ | with_reducible refine Below.alloc ?_ (by first | exact Nat.le_refl _ | (simp; done) | (simp; omega) | (simp at *; omega)) _ | with_reducible refine bstep ?_ (by assumption))) HG3.out) hn3b).mono ?_); rintro e w9 ⟨gt, rfl, hrow, hmine, hge, hgl, hb⟩; have Hgt3 := hide hrow; clear hrow hmine hge hgl; obtain ⟨hc, hf⟩ := bcell hb; have hzq := hb.size; (try simp at hzq)) | (go_at_call 17; (with_reducible refine (laws_eqTrack _ _ n3 _ _ T3 U3 V3 _ (RowAt.later (show Below wG.heap.size wG _ from hHeld) r3_7.out) (RowAt.later (by first | with_reducible assumption | with_reducible exact Below.refl _ _ | exact (by repeat (first | with_reducible exact Below.refl _ _ | with_reducible assumption | with_reducible refine Below.drew ?_ | with_reducible refine below_drewN ?_ _ | with_reducible refine Below.setCell ?_ (by first | exact Nat.le_refl _ | (simp; done) | (simp; omega) | (dsimp only; omega)) _ | with_reducible refine Below.alloc ?_ (by first | exact Nat.le_refl _ | (simp; done) | (simp; omega) | (simp at *; omega)) _ | with_reducible refine bstep ?_ (by assumption)))) Hgt3.out) hn3b).mono ?_); rintro e w9 ⟨rfl, hb⟩; obtain ⟨hc, hf⟩ := bcell hb))
  all_goals (try go_wp2_with fail)
  refine hK.out _ _ ?_ (fun hH2 => ?_)
  · first | exact bstep hHeld hb | exact hHeld.trans hb | exact hHeld
  clear hK K hHeld; (have hHeld := hH2); clear hH2; (try simp only [Act.put, List.setIfInBounds_toArray, List.set_cons_zero, List.set_cons_succ])
  refine wpAnyH_ready (rs := [3]) (by kernel_rfl) (by simp) ?_; refine (AllReadyH.cons (o := ⟨some 78, _, _, _, _, _⟩) rfl (fun K hK => ?_) AllReadyH.nil)
  go_simp; (first | (go_at_call 14; (with_reducible refine (laws_toTrack so3 n3 cap3 T3 U3 V3 _ (RowAt.later (by repeat (first | with_reducible exact Below.refl _ _ | with_reducible assumption | with_reducible refine Below.drew ?_ | with_reducible refine below_drewN ?_ _ | with_reducible refine Below.setCell ?_ (by first | exact Nat.le_refl _ | (simp; done) | (simp; omega) | (dsimp only; omega)) _ | with_reducible refine Below.alloc ?_ (by first | exact Nat.le_refl _ | (simp; done) | (simp; omega) | (simp at *; omega)) _ | with_reducible refine bstep ?_ (by assumption))) HG3.out) hn3b).mono ?_); rintro e w9 ⟨gt, rfl, hrow, hmine, hge, hgl, hb⟩; have Hgt3 := hide hrow; clear hrow hmine hge hgl; obtain ⟨hc, hf⟩ := bcell hb; have hzq := hb.size; (try simp at hzq)) | (go_at_call 17; (with_reducible refine (laws_eqTrack _ _ n3 _ _ T3 U3 V3 _ (RowAt.later (show Below wG.heap.size wG _ from hHeld) r3_7.out) (RowAt.later (by first | with_reducible assumption | with_reducible exact Below.refl _ _ | exact (by repeat (first | with_reducible exact Below.refl _ _ | with_reducible assumption | with_reducible refine Below.drew ?_ | with_reducible refine below_drewN ?_ _ | with_reducible refine Below.setCell ?_ (by first | exact Nat.le_refl _ | (simp; done) | (simp; omega) | (dsimp only; omega)) _ | with_reducible refine Below.alloc ?_ (by first | exact Nat.le_refl _ | (simp; done) | (simp; omega) | (simp at *; omega)) _ | with_reducible refine bstep ?_ (by assumption)))) Hgt3.out) hn3b).mono ?_); rintro e w9 ⟨rfl, hb⟩; obtain ⟨hc, hf⟩ := bcell hb))
  all_goals (try go_wp2_with fail)
  refine hK.out _ _ ?_ (fun hH2 => ?_)
  · first | exact bstep hHeld hb | exact hHeld.trans hb | exact hHeld
  clear hK K hHeld; (have hHeld := hH2); clear hH2; (try simp only [Act.put, List.setIfInBounds_toArray, List.set_cons_zero, List.set_cons_succ])
  refine wpAnyH_take (i := 4) (oi := ⟨some 79, _, _, _, _, _⟩) (v := ?_) rfl (by kernel_rfl) (by kernel_rfl) (by kernel_rfl) (fun _ _ _ h => h) (Or.inl ⟨by kernel_rfl, ?_⟩) (by assumption) ?_; rotate_left; focus (intro W0 hSw; go_simp; (try with_reducible rfl)); (try simp only [Act.put, List.setIfInBounds_toArray, List.set_cons_zero, List.set_cons_succ])
  refine wpAnyH_done (by kernel_rfl) ?_ _; (try simp only [Act.put, List.setIfInBounds_toArray, List.set_cons_zero, List.set_cons_succ])
  go_wp2
  go_ret
  exact ⟨rfl, bstep H_7.out hHeld⟩

set_option maxRecDepth 100000 in
theorem FnExactRoomTime_lifted (os : Os) (started : os.Started) (H : Type) (enc : TypeId × Value → H) :
    ReturnsInHanded {} Tryd.checked os 8 .any (fun w args => (Rows.fnExactRoomTimeSpec.pre enc Tryd.prog Tryd.f8 [] false w args ∧ laidMetH Tryd.prog Rows.fnExactRoomTimeRow.laid w) ∧ sizedMet enc Tryd.prog Tryd.f8 (OpenSpec.ofChange Rows.fnExactRoomTimeSpec) false w args) (Rows.fnExactRoomTimeSpec.post enc Tryd.prog Tryd.f8 false true false false) := by
  refine returnsInHanded_of_change_and (C := Tryd.checked) (X := fun w _ => laidMetH Tryd.prog Rows.fnExactRoomTimeRow.laid w) (fun _ _ _ hh h => h.of_heap hh) Tryd.own started (by as_aux_lemma => kernel_rfl) Tryd.func8
    (ChangeSpec.witness_shaped (enc := enc) (C := Tryd.checked) (os := os) (X := fun w _ => laidMetH Tryd.prog Rows.fnExactRoomTimeRow.laid w) false (World.laidAll Tryd.prog os Rows.fnExactRoomTimeRow.laid) #[.agg #[.int .i64 0, .int .i64 0, .int .i64 0, .int .i64 0, .int .i64 0, .int .i64 0, .int .i64 0, .int .i64 0, .slice none 0 0], .int .i64 0, .agg #[.slice none 0 0], .agg #[.slice none 0 0]] 8 (World.laidAll_os _ _ _) (World.shaped_of_ZipB (by as_aux_lemma => kernel_rfl) (by as_aux_lemma => kernel_rfl)) (by as_aux_lemma => kernel_rfl) (by as_aux_lemma => kernel_rfl) (by as_aux_lemma => kernel_rfl) (by rw [MakeChecks.laidMetH_plain _ _ _ (by as_aux_lemma => kernel_rfl)]; exact laidMet_laidAll _ (by as_aux_lemma => kernel_rfl) (by as_aux_lemma => kernel_rfl))) ?_
  intro W base args ds gs before hval0 hW _ _ hL _
  have hval : ∀ (j : Nat) t v, Tryd.f8.params[j]? = some t → args[j]? = some v → Value.okWide Tryd.prog W .any base t v := hval0
  have hW' := hW
  obtain ⟨p, q, hA0, hV, rfl, _, _⟩ := hW
  have hA : DataW.TrodAll enc Tryd.prog W 0 (fun _ => true) true Tryd.f8.params.toList args.toList ds p := hA0
  rw [Tryd.params8] at hA hval
  obtain ⟨v0, vs0, d0, ds0, p0, q0, hargs, rfl, rfl, h0, r0⟩ := trodAll_cons hA
  obtain ⟨v1, vs1, d1, ds1, p1, q1, rfl, rfl, rfl, h1, r1⟩ := trodAll_cons r0
  obtain ⟨v2, vs2, d2, ds2, p2, q2, rfl, rfl, rfl, h2, r2⟩ := trodAll_cons r1
  obtain ⟨v3, vs3, d3, ds3, p3, q3, rfl, rfl, rfl, h3, r3⟩ := trodAll_cons r2
  obtain ⟨rfl, rfl, rfl⟩ := trodAll_nil r3
  obtain rfl : args = #[v0, v1, v2, v3] := by cases args; simp_all
  obtain ⟨ax0, ay0, bx0, bY0, cx0, cy0, dx0, dy0, so0, n0, cp0, N0, X0, Y0, S0, Z0, rfl, hl0, hr0, hN0⟩ := op_course (hval 0 28 v0 rfl rfl) h0
  obtain ⟨a1, rfl, _, _, _⟩ := open_int Tryd.underlying2 (hval 1 2 v1 rfl rfl) h1
  obtain ⟨so2, n2, cp2, T2, X2, Y2, rfl, hl2, hr2⟩ := op_track (hval 2 31 v2 rfl rfl) h2
  obtain ⟨so3, n3, cp3, T3, X3, Y3, rfl, hl3, hr3⟩ := op_track (hval 3 31 v3 rfl rfl) h3
  obtain ⟨rfl, rfl⟩ := trodVars_none hV
  refine (laws_FnExactRoomTime ax0 ay0 bx0 bY0 cx0 cy0 dx0 dy0 so0 n0 cp0 N0 X0 Y0 S0 Z0 a1 so2 n2 cp2 T2 X2 Y2 so3 n3 cp3 T3 X3 Y3 W hl0 hr0 hN0 hl2 hr2 hl3 hr3).mono fun e W1 ⟨he, hb⟩ => ⟨_, he, ?_⟩
  exact law_post Tryd.laidOut (by as_aux_lemma => kernel_rfl) Tryd.underlying4 rfl rfl hW' rfl rfl rfl hb
set_option maxHeartbeats 8000000 in
theorem FnExactRoomTime_closed : joinedFacts Tryd.prog 8 Tryd.f8 Rows.fnExactRoomTimeSpec Rows.fnExactRoomTimeRow = true := by
  simp only [joinedFacts, Bool.and_eq_true, Tryd.laidOut, Tryd.mapsRowed, Tryd.stopsNone, Tryd.stopKnobsNone, Tryd.plainKeysIs, Tryd.stopsHeardIs, Tryd.mayEnterIs, Tryd.liftsFinalIs, Tryd.makeIs, and_true, true_and]
  repeat' (with_reducible refine And.intro ?_ ?_)
  all_goals (as_aux_lemma => kernel_rfl)
set_option maxHeartbeats 8000000 in
/-- FnExactRoomTime: whatever the input, the law returns true, and the input reads as it did. -/
theorem FnExactRoomTime_row : Rows.FnExactRoomTimeSaid :=
  OpenClaim.holds_of_wide 8 Tryd.f8 rfl rfl rfl rfl rfl rfl rfl ⟨rfl, rfl, rfl, rfl, rfl⟩ rfl rfl rfl rfl rfl (by as_aux_lemma => kernel_rfl) Tryd.func8
    FnExactRoomTime_closed
    (of_decide_eq_true (by as_aux_lemma => kernel_rfl)) (by unfold Func.isWrapper; rw [if_neg (of_decide_eq_false (by as_aux_lemma => kernel_rfl))]; exact ⟨rfl, rfl⟩)
    (fun os started H enc _ => FnExactRoomTime_lifted os started H enc)

set_option maxHeartbeats 8000000 in
/-- FnExactRoomTime: the tied card. -/
theorem FnExactRoomTime_holds : Rows.FnExactRoomTimeCardSaid :=
  Claim7.holds_tied_plain_at .later [] [.data, .pinned] true (true, "ca9a4e23d7f36c513275cf82dd97f656732b604b2576d0f00648b839f14d2e02") false
    FnExactRoomTime_row (fun _ h => by cases h) (by as_aux_lemma => kernel_rfl) (fun _ h => by cases h) fnExactRoomTime_row_tie rfl ⟨rfl, rfl⟩ (by as_aux_lemma => kernel_rfl) rfl
    (fun f fn hf hfn => by
      obtain rfl : f = 8 := Option.some.inj ((show Tryd.prog.funcNamed Rows.fnExactRoomTimeRow.func = some 8 by kernel_rfl).symm.trans hf) |>.symm
      obtain rfl : fn = Tryd.f8 := (Option.some.inj (Tryd.func8.symm.trans hfn)).symm
      exact ⟨by kernel_rfl, fun j t ht => by
        rw [Tryd.params8] at ht
        have hm : t ∈ [28, 2, 31, 31] := by simpa using Array.mem_of_getElem? ht
        have hall : ([28, 2, 31, 31].all fun u => !Tryd.prog.wantsStandIn u) = true := by kernel_rfl
        exact (show Tryd.prog.wantsStandIn t = false by simpa using List.all_eq_true.1 hall t hm)⟩)
    (by as_aux_lemma => kernel_rfl)
#print axioms FnExactRoomTime_holds
end Go.Proofs.YtlllfklehbjneaaDoor
