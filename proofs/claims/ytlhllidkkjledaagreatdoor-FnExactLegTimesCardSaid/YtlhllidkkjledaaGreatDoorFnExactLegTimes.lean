/- LegTimes of the program returns what the reference's returns, in memory of its own, for every course, mark and track. What the program's text lays in the library's table is all that the card takes. -/
import Derived.Test.YtlhllidkkjledaaGreatDoorXq
import Derived.Test.YtlhllidkkjledaaGreatDoorMk
import Derived.Test.YtlhllidkkjledaaGreatDoorBs
import Derived.Test.YtlhllidkkjledaaGreatDoorCd
import Derived.Test.YtlhllidkkjledaaGreatDoorLaw
import Derived.Test.YtlhllidkkjledaaGreatDoorTie
import Derived.Test.YtlhllidkkjledaaGreatDoorCards
import Derived.Lay
import Derived.LaidMore
import Derived.OpenShut
import Derived.ChangeMaps5
import Derived.Stop.Joined
import Derived.SevenTiedAt
import Derived.Deep.DeepCutAuto
namespace Go.Proofs.YtlhllidkkjledaaGreatDoor
open Go.ChangeShapes Go.WideShapes Go.ChangeAt Go.RowKit

theorem CoAt.below {w W : World} {B b : Nat} {ax ay bx bY cx cy dx dy : Int} {so : Option Addr} {n cap : Nat} (hb : Below B w W) (hB : b < B) (h : CoAt w b ax ay bx bY cx cy dx dy so n cap) : CoAt W b ax ay bx bY cx cy dx dy so n cap := by
  obtain ⟨h0, h1, h2, h3, h4, h5, h6, h7, h8⟩ := h
  exact ⟨cell_below hb hB h0, cell_below hb hB h1, cell_below hb hB h2, cell_below hb hB h3, cell_below hb hB h4, cell_below hb hB h5, cell_below hb hB h6, cell_below hb hB h7, cell_below hb hB h8⟩
set_option maxRecDepth 100000 in
set_option maxHeartbeats 16000000 in
theorem laws_FnExactLegTimes (ax ay bx bY cx cy dx dy : Int) (so : Option Addr) (n cap : Nat) (N : Nat → ByteArray) (X Y S Z : Nat → Int) (so2 : Option Addr) (n2 cap2 : Nat) (T U V : Nat → Int) (w : World) (hl : n ≤ maxLen) (h : RowAt w so n 5 (v5 N X Y S Z)) (hN : ∀ i, (N i).size ≤ maxLen) (hl2 : n2 ≤ maxLen) (h2 : RowAt w so2 n2 3 (v3 T U V)) :
    Calls Tryz.prog 4 #[.agg #[.int .i64 ax, .int .i64 ay, .int .i64 bx, .int .i64 bY, .int .i64 cx, .int .i64 cy, .int .i64 dx, .int .i64 dy, .slice so n cap], .agg #[.slice so2 n2 cap2]] w fun e w' => e = .returned (.bool true) ∧ Below w.heap.size w w' := by
  have KZ := hide (fun W (hb : Below w.heap.size w W) => laws_szCourse ax ay bx bY cx cy dx dy so n cap N X Y S Z 1048576 W (RowAt.later hb h) hN hl (by decide) (by decide))
  unfold maxLen at hl hl2
  have Hh := hide h
  have Hh2 := hide h2
  clear h h2 hN
  go_enter Tryz.func4, Tryz.ntmps4
  go_wp2_with fail; (with_reducible refine (KZ.out _ (by with_reducible repeat (first | exact Below.refl _ _ | assumption | refine Below.drew ?_ | refine below_drewN ?_ _ | refine bS ?_ | refine bA ?_ | refine bstep ?_ (by assumption)))).mono ?_); rintro e w1 ⟨x, rfl, hq, hb⟩; obtain ⟨hc, hf⟩ := bcell hb; have hz := hb.size; have z0 : w.heap.size < w1.heap.size := (by first | omega | (simp at hz; omega)); have z1 : w.heap.size + 1 < w1.heap.size := (by first | omega | (simp at hz; omega))
  rcases hq with rfl | ⟨k1, k2, k3⟩
  · go_wp2
    go_ret
    exact ⟨rfl, (by with_reducible repeat (first | exact Below.refl _ _ | assumption | refine Below.drew ?_ | refine below_drewN ?_ _ | refine bS ?_ | refine bA ?_ | refine bstep ?_ (by assumption)))⟩
  by_cases hn2 : (n2 : Int) ≤ x
  case neg =>
    go_wp2_with (go_at_call 10; (with_reducible refine (laws_szTrack_no so2 n2 cap2 _ _ (by omega) (by omega) (by omega)).mono ?_); rintro e w9 ⟨rfl, hb⟩; obtain ⟨hc, hf⟩ := bcell hb; have hz := hb.size; have z0 : w.heap.size < w9.heap.size := (by first | omega | (simp at hz; omega)); have z1 : w.heap.size + 1 < w9.heap.size := (by first | omega | (simp at hz; omega)))
    go_ret
    exact ⟨rfl, (by with_reducible repeat (first | exact Below.refl _ _ | assumption | refine Below.drew ?_ | refine below_drewN ?_ _ | refine bS ?_ | refine bA ?_ | refine bstep ?_ (by assumption)))⟩
  have hn : n ≤ 1048576 := by omega
  have hn3 : n2 ≤ 1048576 := by omega
  have HS := hide (fun W so cp so' cp' (hr : RowAt W so n 5 (v5 N X Y S Z)) (hr' : RowAt W so' n2 3 (v3 T U V)) => spec_LegTimes ax ay bx bY cx cy dx dy so n cp N X Y S Z so' n2 cp' T U V W hr hn hr' hn3)
  have HI := hide (fun W so cp so' cp' (hr : RowAt W so n 5 (v5 N X Y S Z)) (hcp : n ≤ cp) (hr' : RowAt W so' n2 3 (v3 T U V)) => impl_LegTimes ax ay bx bY cx cy dx dy so n cp N X Y S Z so' n2 cp' T U V W hr hn hcp hr' hn3)
  have HLn : (dfL (tsL (isCo ax ay bx bY cx cy dx dy n N X Y S Z) (isTr n2 T U V) (lnA ax ay bx bY cx cy dx dy n X Y S Z) (lnB ax ay bx bY cx cy dx dy n X Y S Z) (lnC ax ay bx bY cx cy dx dy n X Y S Z) (lnD ax ay bx bY cx cy dx dy n X Y S Z) n2 T U V n) (tsL (isCo ax ay bx bY cx cy dx dy n N X Y S Z) (isTr n2 T U V) (lnA ax ay bx bY cx cy dx dy n X Y S Z) (lnB ax ay bx bY cx cy dx dy n X Y S Z) (lnC ax ay bx bY cx cy dx dy n X Y S Z) (lnD ax ay bx bY cx cy dx dy n X Y S Z) n2 T U V n).length).length ≤ 40 := by rw [dfL_len]; have := tsL_len ax ay bx bY cx cy dx dy so n cap N X Y S Z n2 T U V; omega
  generalize dfL (tsL (isCo ax ay bx bY cx cy dx dy n N X Y S Z) (isTr n2 T U V) (lnA ax ay bx bY cx cy dx dy n X Y S Z) (lnB ax ay bx bY cx cy dx dy n X Y S Z) (lnC ax ay bx bY cx cy dx dy n X Y S Z) (lnD ax ay bx bY cx cy dx dy n X Y S Z) n2 T U V n) (tsL (isCo ax ay bx bY cx cy dx dy n N X Y S Z) (isTr n2 T U V) (lnA ax ay bx bY cx cy dx dy n X Y S Z) (lnB ax ay bx bY cx cy dx dy n X Y S Z) (lnC ax ay bx bY cx cy dx dy n X Y S Z) (lnD ax ay bx bY cx cy dx dy n X Y S Z) n2 T U V n).length = L at *
  generalize tsC (isCo ax ay bx bY cx cy dx dy n N X Y S Z) (isTr n2 T U V) (lnsOk (lnA ax ay bx bY cx cy dx dy n X Y S Z) (lnB ax ay bx bY cx cy dx dy n X Y S Z) (lnC ax ay bx bY cx cy dx dy n X Y S Z) (lnD ax ay bx bY cx cy dx dy n X Y S Z) (n + 1)) = cd at *
  clear KZ
  go_upto_region 8 with (go_at_call 10; (with_reducible refine (laws_szTrack_yes so2 n2 cap2 _ _ (by omega) (by omega)).mono ?_); rintro e w9 ⟨rfl, hb⟩; obtain ⟨hc, hf⟩ := bcell hb; have hz := hb.size; have z0 : w.heap.size < w9.heap.size := (by first | omega | (simp at hz; omega)); have z1 : w.heap.size + 1 < w9.heap.size := (by first | omega | (simp at hz; omega)))
  obtain ⟨wA, rfl⟩ : ∃ W : World, W = w9 := ⟨_, rfl⟩
  have a0 := hide (show CoAt wA w.heap.size ax ay bx bY cx cy dx dy so n cap from ⟨by go_simp, by go_simp, by go_simp, by go_simp, by go_simp, by go_simp, by go_simp, by go_simp, by go_simp⟩)
  have a3 : wA.cell? ⟨w.heap.size + 1, 0, none⟩ = some (.slice so2 n2 cap2) := by go_simp
  have HA := hide (show Below w.heap.size w wA from (by with_reducible repeat (first | exact Below.refl _ _ | assumption | refine Below.drew ?_ | refine below_drewN ?_ _ | refine bS ?_ | refine bA ?_ | refine bstep ?_ (by assumption))))
  have HhA := hide (RowAt.later HA.out Hh.out)
  have HkA := hide (RowAt.later HA.out Hh2.out)
  have zA0 : w.heap.size < wA.heap.size := by have := hz; omega
  have zA1 : w.heap.size + 1 < wA.heap.size := by have := hz; omega
  clear hb hc hf hz z0 z1 k1 k2 k3
  go_cut [6, 7] (fun s1 s2 W => ∃ (so0 : Option Addr) (cp0 : Nat), s1 = .slice so0 L.length cp0 ∧ s2 = .int .i64 cd ∧ RowAt W so0 L.length 1 (v1 fun i => L[i]?.getD 0) ∧ Below wA.heap.size wA W)
  case first =>
    obtain ⟨o0, o1, o2, o3, o4, o5, o6, o7, o8⟩ := a0.out
    refine wp_region_held_drew (S := fun W => Below wA.heap.size wA W) (by kernel_rfl) (Below.drew (Below.refl _ _)) (fun hHeld => ?_)
    refine wpAnyH_take (i := 0) (oi := ⟨some 28, _, _, _, _, _⟩) (v := ?_) rfl (by kernel_rfl) (by kernel_rfl) (by kernel_rfl) (fun _ _ _ h => h) (Or.inl ⟨by kernel_rfl, ?_⟩) (by assumption) ?_; rotate_left; focus (intro W0 hSw; have hcS := (bcell hSw).1; go_simp; (try with_reducible rfl)); (try simp only [pz])
    refine wpAnyH_take (i := 2) (oi := ⟨some 30, _, _, _, _, _⟩) (v := ?_) rfl (by kernel_rfl) (by kernel_rfl) (by kernel_rfl) (fun _ _ _ h => h) (Or.inl ⟨by kernel_rfl, ?_⟩) (by assumption) ?_; rotate_left; focus (intro W0 hSw; have hcS := (bcell hSw).1; go_simp; (try with_reducible rfl)); (try simp only [pz])
    refine wpAnyH_ready (rs := [1]) (by kernel_rfl) (by simp) ?_; refine (AllReadyH.cons (o := ⟨some 29, _, _, _, _, _⟩) rfl (fun K hK => ?_) AllReadyH.nil)
    go_simp; (first | (go_at_call 12; (with_reducible refine (laws_toCourse ax ay bx bY cx cy dx dy so n cap N X Y S Z _ (RowAt.later (by with_reducible repeat (first | exact Below.refl _ _ | assumption | refine Below.drew ?_ | refine below_drewN ?_ _ | refine bS ?_ | refine bA ?_ | refine bstep ?_ (by assumption))) HhA.out) hn).mono ?_); rintro e w9 ⟨gc, rfl, hrow, hmine, hge, hgl, hb⟩; have Hgc := hide hrow; clear hrow hmine hge hgl; obtain ⟨hc, hf⟩ := bcell hb; have hzq := hb.size; (try simp at hzq)) | (go_at_call 13; (with_reducible refine (laws_toTrack so2 n2 cap2 T U V _ (RowAt.later (by with_reducible repeat (first | exact Below.refl _ _ | assumption | refine Below.drew ?_ | refine below_drewN ?_ _ | refine bS ?_ | refine bA ?_ | refine bstep ?_ (by assumption))) HkA.out) hn3).mono ?_); rintro e w9 ⟨gt, rfl, hrow, hmine, hge, hgl, hb⟩; have Hgt := hide hrow; clear hrow hmine hge hgl; obtain ⟨hc, hf⟩ := bcell hb; have hzq := hb.size; (try simp at hzq)) | (go_at_call 22; (with_reducible refine (HS.out _ _ _ _ _ (RowAt.later (by first | with_reducible assumption | with_reducible exact Below.refl _ _ | exact (by with_reducible repeat (first | exact Below.refl _ _ | assumption | refine Below.drew ?_ | refine below_drewN ?_ _ | refine bS ?_ | refine bA ?_ | refine bstep ?_ (by assumption)))) Hgc.out) (RowAt.later (by first | with_reducible assumption | with_reducible exact Below.refl _ _ | exact (by with_reducible repeat (first | exact Below.refl _ _ | assumption | refine Below.drew ?_ | refine below_drewN ?_ _ | refine bS ?_ | refine bA ?_ | refine bstep ?_ (by assumption)))) Hgt.out)).mono ?_); rintro e w9 ⟨so0, cp0, rfl, hown, hb⟩; have H0 := hide (OwZ.read (OwZ.of hown)); clear hown))
    all_goals (try go_wp2_with fail)
    refine hK.out _ _ ?_ (fun hH2 => ?_)
    · first | exact bstep hHeld hb | exact hHeld.trans hb | exact hHeld
    clear hK K hHeld; (have hHeld := hH2); clear hH2; (try simp only [pz])
    refine wpAnyH_ready (rs := [3]) (by kernel_rfl) (by simp) ?_; refine (AllReadyH.cons (o := ⟨some 31, _, _, _, _, _⟩) rfl (fun K hK => ?_) AllReadyH.nil)
    go_simp; (first | (go_at_call 12; (with_reducible refine (laws_toCourse ax ay bx bY cx cy dx dy so n cap N X Y S Z _ (RowAt.later (by with_reducible repeat (first | exact Below.refl _ _ | assumption | refine Below.drew ?_ | refine below_drewN ?_ _ | refine bS ?_ | refine bA ?_ | refine bstep ?_ (by assumption))) HhA.out) hn).mono ?_); rintro e w9 ⟨gc, rfl, hrow, hmine, hge, hgl, hb⟩; have Hgc := hide hrow; clear hrow hmine hge hgl; obtain ⟨hc, hf⟩ := bcell hb; have hzq := hb.size; (try simp at hzq)) | (go_at_call 13; (with_reducible refine (laws_toTrack so2 n2 cap2 T U V _ (RowAt.later (by with_reducible repeat (first | exact Below.refl _ _ | assumption | refine Below.drew ?_ | refine below_drewN ?_ _ | refine bS ?_ | refine bA ?_ | refine bstep ?_ (by assumption))) HkA.out) hn3).mono ?_); rintro e w9 ⟨gt, rfl, hrow, hmine, hge, hgl, hb⟩; have Hgt := hide hrow; clear hrow hmine hge hgl; obtain ⟨hc, hf⟩ := bcell hb; have hzq := hb.size; (try simp at hzq)) | (go_at_call 22; (with_reducible refine (HS.out _ _ _ _ _ (RowAt.later (by first | with_reducible assumption | with_reducible exact Below.refl _ _ | exact (by with_reducible repeat (first | exact Below.refl _ _ | assumption | refine Below.drew ?_ | refine below_drewN ?_ _ | refine bS ?_ | refine bA ?_ | refine bstep ?_ (by assumption)))) Hgc.out) (RowAt.later (by first | with_reducible assumption | with_reducible exact Below.refl _ _ | exact (by with_reducible repeat (first | exact Below.refl _ _ | assumption | refine Below.drew ?_ | refine below_drewN ?_ _ | refine bS ?_ | refine bA ?_ | refine bstep ?_ (by assumption)))) Hgt.out)).mono ?_); rintro e w9 ⟨so0, cp0, rfl, hown, hb⟩; have H0 := hide (OwZ.read (OwZ.of hown)); clear hown))
    all_goals (try go_wp2_with fail)
    refine hK.out _ _ ?_ (fun hH2 => ?_)
    · first | exact bstep hHeld hb | exact hHeld.trans hb | exact hHeld
    clear hK K hHeld; (have hHeld := hH2); clear hH2; (try simp only [pz])
    refine wpAnyH_ready (rs := [4]) (by kernel_rfl) (by simp) ?_; refine (AllReadyH.cons (o := ⟨some 32, _, _, _, _, _⟩) rfl (fun K hK => ?_) AllReadyH.nil)
    go_simp; (first | (go_at_call 12; (with_reducible refine (laws_toCourse ax ay bx bY cx cy dx dy so n cap N X Y S Z _ (RowAt.later (by with_reducible repeat (first | exact Below.refl _ _ | assumption | refine Below.drew ?_ | refine below_drewN ?_ _ | refine bS ?_ | refine bA ?_ | refine bstep ?_ (by assumption))) HhA.out) hn).mono ?_); rintro e w9 ⟨gc, rfl, hrow, hmine, hge, hgl, hb⟩; have Hgc := hide hrow; clear hrow hmine hge hgl; obtain ⟨hc, hf⟩ := bcell hb; have hzq := hb.size; (try simp at hzq)) | (go_at_call 13; (with_reducible refine (laws_toTrack so2 n2 cap2 T U V _ (RowAt.later (by with_reducible repeat (first | exact Below.refl _ _ | assumption | refine Below.drew ?_ | refine below_drewN ?_ _ | refine bS ?_ | refine bA ?_ | refine bstep ?_ (by assumption))) HkA.out) hn3).mono ?_); rintro e w9 ⟨gt, rfl, hrow, hmine, hge, hgl, hb⟩; have Hgt := hide hrow; clear hrow hmine hge hgl; obtain ⟨hc, hf⟩ := bcell hb; have hzq := hb.size; (try simp at hzq)) | (go_at_call 22; (with_reducible refine (HS.out _ _ _ _ _ (RowAt.later (by first | with_reducible assumption | with_reducible exact Below.refl _ _ | exact (by with_reducible repeat (first | exact Below.refl _ _ | assumption | refine Below.drew ?_ | refine below_drewN ?_ _ | refine bS ?_ | refine bA ?_ | refine bstep ?_ (by assumption)))) Hgc.out) (RowAt.later (by first | with_reducible assumption | with_reducible exact Below.refl _ _ | exact (by with_reducible repeat (first | exact Below.refl _ _ | assumption | refine Below.drew ?_ | refine below_drewN ?_ _ | refine bS ?_ | refine bA ?_ | refine bstep ?_ (by assumption)))) Hgt.out)).mono ?_); rintro e w9 ⟨so0, cp0, rfl, hown, hb⟩; have H0 := hide (OwZ.read (OwZ.of hown)); clear hown))
    all_goals (try go_wp2_with fail)
    refine hK.out _ _ ?_ (fun hH2 => ?_)
    · first | exact bstep hHeld hb | exact hHeld.trans hb | exact hHeld
    clear hK K hHeld; (have hHeld := hH2); clear hH2; (try simp only [pz])
    refine wpAnyH_take (i := 5) (oi := ⟨some 27, _, _, _, _, _⟩) (v := ?_) rfl (by kernel_rfl) (by kernel_rfl) (by kernel_rfl) (fun _ _ _ h => h) (Or.inl ⟨by kernel_rfl, ?_⟩) (by assumption) ?_; rotate_left; focus (intro W0 hSw; go_simp; (try with_reducible rfl)); (try simp only [pz])
    refine wpAnyH_take (i := 6) (oi := ⟨some 33, _, _, _, _, _⟩) (v := ?_) rfl (by kernel_rfl) (by kernel_rfl) (by kernel_rfl) (fun _ _ _ h => h) (Or.inl ⟨by kernel_rfl, ?_⟩) (by assumption) ?_; rotate_left; focus (intro W0 hSw; go_simp; (try with_reducible rfl)); (try simp only [pz])
    refine wpAnyH_take (i := 7) (oi := ⟨some 34, _, _, _, _, _⟩) (v := ?_) rfl (by kernel_rfl) (by kernel_rfl) (by kernel_rfl) (fun _ _ _ h => h) (Or.inl ⟨by kernel_rfl, ?_⟩) (by assumption) ?_; rotate_left; focus (intro W0 hSw; go_simp; (try with_reducible rfl)); (try simp only [pz])
    refine wpAnyH_take (i := 8) (oi := ⟨some 6, _, _, _, _, _⟩) (v := ?_) rfl (by kernel_rfl) (by kernel_rfl) (by kernel_rfl) (fun _ _ _ h => h) (Or.inl ⟨by kernel_rfl, ?_⟩) (by assumption) ?_; rotate_left; focus (intro W0 hSw; go_simp; (try with_reducible rfl)); (try simp only [pz])
    refine wpAnyH_take (i := 9) (oi := ⟨some 7, _, _, _, _, _⟩) (v := ?_) rfl (by kernel_rfl) (by kernel_rfl) (by kernel_rfl) (fun _ _ _ h => h) (Or.inl ⟨by kernel_rfl, ?_⟩) (by assumption) ?_; rotate_left; focus (intro W0 hSw; go_simp; (try with_reducible rfl)); (try simp only [pz])
    refine wpAnyH_done (by kernel_rfl) ?_ _; (try simp only [pz])
    go_wp2_with fail
    go_meet
    exact ⟨so0, cp0, rfl, rfl, H0.out, hHeld⟩
  case rest =>
  obtain ⟨so0, cp0, rfl, rfl, h0, rB⟩ := hcut
  obtain ⟨wB, rfl⟩ : ∃ W : World, W = wc := ⟨_, rfl⟩
  have H0 := hide h0
  have b0 := hide (CoAt.later rB a0.out)
  have b3' := cell_later rB a3
  have HB := hide (bstep HA.out rB)
  have HhB := hide (RowAt.later HB.out Hh.out)
  have sB := rB.size
  have sB0 : w.heap.size < wB.heap.size := by omega
  have sB1 : w.heap.size + 1 < wB.heap.size := by omega
  clear a0 a3 rB HA HhA HkA zA0 zA1 h0
  go_upto_region 9 with fail
  go_cut [8] (fun s14 W => ∃ gx g1 : Nat, s14 = .pointer (some ⟨gx, 0, none⟩) ∧ CoAt W gx ax ay bx bY cx cy dx dy (some ⟨g1, 0, none⟩) n n ∧ RowAt W (some ⟨g1, 0, none⟩) n 5 (v5 N X Y S Z) ∧ Mine W g1 (n * 5) ∧ wB.heap.size ≤ g1 ∧ g1 < gx ∧ gx < W.heap.size ∧ Below wB.heap.size wB W)
  case first =>
    obtain ⟨o0, o1, o2, o3, o4, o5, o6, o7, o8⟩ := b0.out
    go_wp2_with (go_at_call 12; (with_reducible refine (laws_toCourse ax ay bx bY cx cy dx dy so n cap N X Y S Z _ (RowAt.later (by with_reducible repeat (first | exact Below.refl _ _ | assumption | refine Below.drew ?_ | refine below_drewN ?_ _ | refine bS ?_ | refine bA ?_ | refine bstep ?_ (by assumption))) HhB.out) hn).mono ?_); rintro e w9 ⟨gt2, rfl, hrow, hmine, hge, hgl, hb⟩; have Hrow := hide hrow; have Hmine := hide hmine; clear hrow hmine)
    go_meet
    exact ⟨w9.heap.size, gt2, rfl, ⟨by go_simp, by go_simp, by go_simp, by go_simp, by go_simp, by go_simp, by go_simp, by go_simp, by go_simp⟩, Hrow.out.later (Below.alloc (Below.refl _ _) (Nat.le_refl _) _), Hmine.out.later (Below.alloc (Below.refl _ _) (Nat.le_refl _) _), hge, hgl, by simp, (by with_reducible repeat (first | exact Below.refl _ _ | assumption | refine Below.drew ?_ | refine below_drewN ?_ _ | refine bS ?_ | refine bA ?_ | refine bstep ?_ (by assumption)))⟩
  case rest =>
  obtain ⟨gx, g1, rfl, c3', hrow1, hm1, q1, q2, q3, hBC⟩ := hcut
  obtain ⟨wC, rfl⟩ : ∃ W : World, W = wc := ⟨_, rfl⟩
  have c3' := hide c3'
  have Hrow1 := hide hrow1
  have Hm1 := hide hm1
  have d0 := hide (CoAt.later hBC b0.out)
  have d3 := cell_later hBC b3'
  have HC := hide (bstep HB.out hBC)
  have HBC := hide hBC
  have H0C := hide (RowAt.later hBC H0.out)
  have HkC := hide (RowAt.later HC.out Hh2.out)
  have sC := hBC.size
  have sC0 : w.heap.size < wC.heap.size := by omega
  have sC1 : w.heap.size + 1 < wC.heap.size := by omega
  clear b0 b3' hBC hrow1 hm1 HB HhB
  go_upto_region 10 with fail
  go_cut [9] (fun s14 W => ∃ gy g3 : Nat, s14 = .pointer (some ⟨gy, 0, none⟩) ∧ W.cell? ⟨gy, 0, none⟩ = some (.slice (some ⟨g3, 0, none⟩) n2 n2) ∧ RowAt W (some ⟨g3, 0, none⟩) n2 3 (v3 T U V) ∧ Mine W g3 (n2 * 3) ∧ wC.heap.size ≤ g3 ∧ g3 < gy ∧ gy < W.heap.size ∧ Below wC.heap.size wC W)
  case first =>
    go_wp2_with (go_at_call 13; (with_reducible refine (laws_toTrack so2 n2 cap2 T U V _ (RowAt.later (by with_reducible repeat (first | exact Below.refl _ _ | assumption | refine Below.drew ?_ | refine below_drewN ?_ _ | refine bS ?_ | refine bA ?_ | refine bstep ?_ (by assumption))) HkC.out) hn3).mono ?_); rintro e w9 ⟨gt2, rfl, hrow, hmine, hge, hgl, hb⟩; have Hrow := hide hrow; have Hmine := hide hmine; clear hrow hmine)
    go_meet
    exact ⟨w9.heap.size, gt2, rfl, by go_simp, Hrow.out.later (Below.alloc (Below.refl _ _) (Nat.le_refl _) _), Hmine.out.later (Below.alloc (Below.refl _ _) (Nat.le_refl _) _), hge, hgl, by simp, (by with_reducible repeat (first | exact Below.refl _ _ | assumption | refine Below.drew ?_ | refine below_drewN ?_ _ | refine bS ?_ | refine bA ?_ | refine bstep ?_ (by assumption)))⟩
  case rest =>
  obtain ⟨gy, g3, rfl, c4', hrow3, hm3, q4, q5, q6, hCC⟩ := hcut
  obtain ⟨wX, rfl⟩ : ∃ W : World, W = wc := ⟨_, rfl⟩
  have Hrow3 := hide hrow3
  have Hm3 := hide hm3
  have Hrow1X := hide (RowAt.later hCC Hrow1.out)
  have Hm1X := hide (Mine.later hCC Hm1.out)
  have H0X := hide (RowAt.later hCC H0C.out)
  have x0 := hide (CoAt.later hCC d0.out)
  have x3 := cell_later hCC d3
  have x4 := hide (CoAt.later hCC c3'.out)
  have HX := hide (bstep HC.out hCC)
  have HBX := hide (HBC.out.trans (hCC.mono HBC.out.size))
  have sX := hCC.size
  have sX0 : w.heap.size < wX.heap.size := by omega
  have sX1 : w.heap.size + 1 < wX.heap.size := by omega
  have sX3 : gx < wX.heap.size := by omega
  clear d0 d3 c3' hCC hrow3 hm3 Hrow1 Hm1 HC HkC sC0 sC1 H0C HBC
  go_upto_region 11 with fail
  go_cut [10, 11] (fun s1 s2 W => ∃ (so1 : Option Addr) (cp1 : Nat), s1 = .slice so1 L.length cp1 ∧ s2 = .int .i64 cd ∧ OwZ W wX.heap.size so1 L ∧ Below wX.heap.size wX W)
  case first =>
    obtain ⟨o0, o1, o2, o3, o4, o5, o6, o7, o8⟩ := x4.out
    go_wp2_with (go_at_call 23; (with_reducible refine (HI.out _ _ _ _ _ Hrow1X.out (Nat.le_refl _) Hrow3.out).mono ?_); rintro e w9 ⟨so1, cp1, rfl, hown, hb⟩; have H1 := hide (OwZ.of hown); clear hown)
    go_meet
    exact ⟨so1, cp1, rfl, rfl, H1.out, hb⟩
  case rest =>
  obtain ⟨so1, cp1, rfl, rfl, h1, rD⟩ := hcut
  obtain ⟨wD, rfl⟩ : ∃ W : World, W = wc := ⟨_, rfl⟩
  have H1 := hide h1
  clear h1
  have H1_0 := H1
  have e0_1 := hide (CoAt.later rD x0.out)
  have e3_1 := cell_later rD x3
  have e4_1 := hide (CoAt.later rD x4.out)
  have e5_1 := cell_later rD c4'
  have H_1 := hide (bstep HX.out rD)
  have HB_1 := hide (HBX.out.trans (rD.mono HBX.out.size))
  have H0_1 := hide (RowAt.later rD H0X.out)
  have Hr1_1 := hide (RowAt.later rD Hrow1X.out)
  have Hr3_1 := hide (RowAt.later rD Hrow3.out)
  have Hm1_1 := hide (Mine.later rD Hm1X.out)
  have Hm3_1 := hide (Mine.later rD Hm3.out)
  have s_1 := rD.size
  have sw0_1 : w.heap.size < wD.heap.size := by omega
  have sw1_1 : w.heap.size + 1 < wD.heap.size := by omega
  have sgx_1 : gx < wD.heap.size := by omega
  have sgy_1 : gy < wD.heap.size := by omega
  have sg1_1 : g1 < wD.heap.size := by omega
  have sg3_1 : g3 < wD.heap.size := by omega
  have sX_1 : wX.heap.size ≤ wD.heap.size := by omega
  clear x0 x3 x4 c4' HX HBX H0X Hrow1X Hrow3 Hm1X Hm3
  clear rD H1 sX0 sX1 sX3
  go_wp2_with fail; (with_reducible refine (laws_eqInt64S _ _ L.length _ _ _ _ (OwZ.read H1_0.out) (H0_1.out) (by omega)).mono ?_); rintro e wE ⟨rfl, hbE⟩
  have e0_2 := hide (CoAt.later hbE e0_1.out)
  have e3_2 := cell_later hbE e3_1
  have e4_2 := hide (CoAt.later hbE e4_1.out)
  have e5_2 := cell_later hbE e5_1
  have H_2 := hide (bstep H_1.out hbE)
  have HB_2 := hide (HB_1.out.trans (hbE.mono HB_1.out.size))
  have H0_2 := hide (RowAt.later hbE H0_1.out)
  have Hr1_2 := hide (RowAt.later hbE Hr1_1.out)
  have Hr3_2 := hide (RowAt.later hbE Hr3_1.out)
  have Hm1_2 := hide (Mine.later hbE Hm1_1.out)
  have Hm3_2 := hide (Mine.later hbE Hm3_1.out)
  have H1_2 := hide (OwZ.later H1_0.out hbE)
  have s_2 := hbE.size
  have sw0_2 : w.heap.size < wE.heap.size := by omega
  have sw1_2 : w.heap.size + 1 < wE.heap.size := by omega
  have sgx_2 : gx < wE.heap.size := by omega
  have sgy_2 : gy < wE.heap.size := by omega
  have sg1_2 : g1 < wE.heap.size := by omega
  have sg3_2 : g3 < wE.heap.size := by omega
  have sX_2 : wX.heap.size ≤ wE.heap.size := by omega
  clear e0_1 e3_1 e4_1 e5_1 H_1 HB_1 H0_1 Hr1_1 Hr3_1 Hm1_1 Hm3_1 H1_0
  clear hbE
  have HhE := hide (RowAt.later H_2.out Hh.out)
  go_upto_region 14 with fail
  obtain ⟨o0, o1, o2, o3, o4, o5, o6, o7, o8⟩ := e0_2.out
  obtain ⟨p0, p1, p2, p3, p4, p5, p6, p7, p8⟩ := e4_2.out
  refine wp_region_held_drew (S := fun W => Below wE.heap.size wE W) (by kernel_rfl) (Below.drew (Below.refl _ _)) (fun hHeld => ?_)
  refine wpAnyH_take (i := 0) (oi := ⟨some 54, _, _, _, _, _⟩) (v := ?_) rfl (by kernel_rfl) (by kernel_rfl) (by kernel_rfl) (fun _ _ _ h => h) (Or.inl ⟨by kernel_rfl, ?_⟩) (by assumption) ?_; rotate_left; focus (intro W0 hSw; have hcS := (bcell hSw).1; go_simp; (try with_reducible rfl)); (try simp only [pz])
  refine wpAnyH_take (i := 1) (oi := ⟨some 55, _, _, _, _, _⟩) (v := ?_) rfl (by kernel_rfl) (by kernel_rfl) (by kernel_rfl) (fun _ _ _ h => h) (Or.inl ⟨by kernel_rfl, ?_⟩) (by assumption) ?_; rotate_left; focus (intro W0 hSw; have hcS := (bcell hSw).1; go_simp; (try with_reducible rfl)); (try simp only [pz])
  refine wpAnyH_ready (rs := [2]) (by kernel_rfl) (by simp) ?_; refine (AllReadyH.cons (o := ⟨some 56, _, _, _, _, _⟩) rfl (fun K hK => ?_) AllReadyH.nil)
  go_simp; (first | (go_at_call 12; (with_reducible refine (laws_toCourse ax ay bx bY cx cy dx dy so n cap N X Y S Z _ (RowAt.later (by with_reducible repeat (first | exact Below.refl _ _ | assumption | refine Below.drew ?_ | refine below_drewN ?_ _ | refine bS ?_ | refine bA ?_ | refine bstep ?_ (by assumption))) HhE.out) hn).mono ?_); rintro e w9 ⟨gc, rfl, hrow, hmine, hge, hgl, hb⟩; have Hgc := hide hrow; clear hrow hmine hge hgl; obtain ⟨hc, hf⟩ := bcell hb; have hzq := hb.size; (try simp at hzq)) | (go_at_call 16; (with_reducible refine (laws_eqCourse ax ay bx bY cx cy dx dy _ _ n _ _ N X Y S Z _ (RowAt.later (show Below wE.heap.size wE _ from hHeld) Hr1_2.out) (RowAt.later (by first | with_reducible assumption | with_reducible exact Below.refl _ _ | exact (by with_reducible repeat (first | exact Below.refl _ _ | assumption | refine Below.drew ?_ | refine below_drewN ?_ _ | refine bS ?_ | refine bA ?_ | refine bstep ?_ (by assumption)))) Hgc.out) hn).mono ?_); rintro e w9 ⟨rfl, hb⟩; obtain ⟨hc, hf⟩ := bcell hb))
  all_goals (try go_wp2_with fail)
  refine hK.out _ _ ?_ (fun hH2 => ?_)
  · first | exact bstep hHeld hb | exact hHeld.trans hb | exact hHeld
  clear hK K hHeld; (have hHeld := hH2); clear hH2; (try simp only [pz])
  refine wpAnyH_ready (rs := [3]) (by kernel_rfl) (by simp) ?_; refine (AllReadyH.cons (o := ⟨some 57, _, _, _, _, _⟩) rfl (fun K hK => ?_) AllReadyH.nil)
  go_simp; (first | (go_at_call 12; (with_reducible refine (laws_toCourse ax ay bx bY cx cy dx dy so n cap N X Y S Z _ (RowAt.later (by with_reducible repeat (first | exact Below.refl _ _ | assumption | refine Below.drew ?_ | refine below_drewN ?_ _ | refine bS ?_ | refine bA ?_ | refine bstep ?_ (by assumption))) HhE.out) hn).mono ?_); rintro e w9 ⟨gc, rfl, hrow, hmine, hge, hgl, hb⟩; have Hgc := hide hrow; clear hrow hmine hge hgl; obtain ⟨hc, hf⟩ := bcell hb; have hzq := hb.size; (try simp at hzq)) | (go_at_call 16; (with_reducible refine (laws_eqCourse ax ay bx bY cx cy dx dy _ _ n _ _ N X Y S Z _ (RowAt.later (show Below wE.heap.size wE _ from hHeld) Hr1_2.out) (RowAt.later (by first | with_reducible assumption | with_reducible exact Below.refl _ _ | exact (by with_reducible repeat (first | exact Below.refl _ _ | assumption | refine Below.drew ?_ | refine below_drewN ?_ _ | refine bS ?_ | refine bA ?_ | refine bstep ?_ (by assumption)))) Hgc.out) hn).mono ?_); rintro e w9 ⟨rfl, hb⟩; obtain ⟨hc, hf⟩ := bcell hb))
  all_goals (try go_wp2_with fail)
  refine hK.out _ _ ?_ (fun hH2 => ?_)
  · first | exact bstep hHeld hb | exact hHeld.trans hb | exact hHeld
  clear hK K hHeld; (have hHeld := hH2); clear hH2; (try simp only [pz])
  refine wpAnyH_take (i := 4) (oi := ⟨some 58, _, _, _, _, _⟩) (v := ?_) rfl (by kernel_rfl) (by kernel_rfl) (by kernel_rfl) (fun _ _ _ h => h) (Or.inl ⟨by kernel_rfl, ?_⟩) (by assumption) ?_; rotate_left; focus (intro W0 hSw; go_simp; (try with_reducible rfl)); (try simp only [pz])
  refine wpAnyH_done (by kernel_rfl) ?_ _; (try simp only [pz])
  obtain ⟨wF, rfl⟩ : ∃ W : World, W = w9 := ⟨_, rfl⟩
  clear o0 o1 o2 o3 o4 o5 o6 o7 o8 p0 p1 p2 p3 p4 p5 p6 p7 p8 HhE hc hf hb
  have e0_3 := hide (CoAt.later hHeld e0_2.out)
  have e3_3 := cell_later hHeld e3_2
  have e4_3 := hide (CoAt.later hHeld e4_2.out)
  have e5_3 := cell_later hHeld e5_2
  have H_3 := hide (bstep H_2.out hHeld)
  have HB_3 := hide (HB_2.out.trans (hHeld.mono HB_2.out.size))
  have H0_3 := hide (RowAt.later hHeld H0_2.out)
  have Hr3_3 := hide (RowAt.later hHeld Hr3_2.out)
  have Hm1_3 := hide (Mine.later hHeld Hm1_2.out)
  have Hm3_3 := hide (Mine.later hHeld Hm3_2.out)
  have H1_3 := hide (OwZ.later H1_2.out hHeld)
  have s_3 := hHeld.size
  have sw0_3 : w.heap.size < wF.heap.size := by omega
  have sw1_3 : w.heap.size + 1 < wF.heap.size := by omega
  have sgx_3 : gx < wF.heap.size := by omega
  have sgy_3 : gy < wF.heap.size := by omega
  have sg1_3 : g1 < wF.heap.size := by omega
  have sg3_3 : g3 < wF.heap.size := by omega
  have sX_3 : wX.heap.size ≤ wF.heap.size := by omega
  clear e0_2 e3_2 e4_2 e5_2 H_2 HB_2 H0_2 Hr1_2 Hr3_2 Hm1_2 Hm3_2 H1_2
  clear hHeld
  have HkF := hide (RowAt.later H_3.out Hh2.out)
  go_upto_region 16 with fail
  refine wp_region_held_drew (S := fun W => Below wF.heap.size wF W) (by kernel_rfl) (Below.drew (Below.refl _ _)) (fun hHeld => ?_)
  refine wpAnyH_take (i := 0) (oi := ⟨some 59, _, _, _, _, _⟩) (v := ?_) rfl (by kernel_rfl) (by kernel_rfl) (by kernel_rfl) (fun _ _ _ h => h) (Or.inl ⟨by kernel_rfl, ?_⟩) (by assumption) ?_; rotate_left; focus (intro W0 hSw; have hcS := (bcell hSw).1; go_simp; (try with_reducible rfl)); (try simp only [pz])
  refine wpAnyH_take (i := 1) (oi := ⟨some 60, _, _, _, _, _⟩) (v := ?_) rfl (by kernel_rfl) (by kernel_rfl) (by kernel_rfl) (fun _ _ _ h => h) (Or.inl ⟨by kernel_rfl, ?_⟩) (by assumption) ?_; rotate_left; focus (intro W0 hSw; have hcS := (bcell hSw).1; go_simp; (try with_reducible rfl)); (try simp only [pz])
  refine wpAnyH_ready (rs := [2]) (by kernel_rfl) (by simp) ?_; refine (AllReadyH.cons (o := ⟨some 61, _, _, _, _, _⟩) rfl (fun K hK => ?_) AllReadyH.nil)
  go_simp; (first | (go_at_call 13; (with_reducible refine (laws_toTrack so2 n2 cap2 T U V _ (RowAt.later (by with_reducible repeat (first | exact Below.refl _ _ | assumption | refine Below.drew ?_ | refine below_drewN ?_ _ | refine bS ?_ | refine bA ?_ | refine bstep ?_ (by assumption))) HkF.out) hn3).mono ?_); rintro e w9 ⟨gt, rfl, hrow, hmine, hge, hgl, hb⟩; have Hgt := hide hrow; clear hrow hmine hge hgl; obtain ⟨hc, hf⟩ := bcell hb; have hzq := hb.size; (try simp at hzq)) | (go_at_call 17; (with_reducible refine (laws_eqTrack _ _ n2 _ _ T U V _ (RowAt.later (show Below wF.heap.size wF _ from hHeld) Hr3_3.out) (RowAt.later (by first | with_reducible assumption | with_reducible exact Below.refl _ _ | exact (by with_reducible repeat (first | exact Below.refl _ _ | assumption | refine Below.drew ?_ | refine below_drewN ?_ _ | refine bS ?_ | refine bA ?_ | refine bstep ?_ (by assumption)))) Hgt.out) hn3).mono ?_); rintro e w9 ⟨rfl, hb⟩; obtain ⟨hc, hf⟩ := bcell hb))
  all_goals (try go_wp2_with fail)
  refine hK.out _ _ ?_ (fun hH2 => ?_)
  · first | exact bstep hHeld hb | exact hHeld.trans hb | exact hHeld
  clear hK K hHeld; (have hHeld := hH2); clear hH2; (try simp only [pz])
  refine wpAnyH_ready (rs := [3]) (by kernel_rfl) (by simp) ?_; refine (AllReadyH.cons (o := ⟨some 62, _, _, _, _, _⟩) rfl (fun K hK => ?_) AllReadyH.nil)
  go_simp; (first | (go_at_call 13; (with_reducible refine (laws_toTrack so2 n2 cap2 T U V _ (RowAt.later (by with_reducible repeat (first | exact Below.refl _ _ | assumption | refine Below.drew ?_ | refine below_drewN ?_ _ | refine bS ?_ | refine bA ?_ | refine bstep ?_ (by assumption))) HkF.out) hn3).mono ?_); rintro e w9 ⟨gt, rfl, hrow, hmine, hge, hgl, hb⟩; have Hgt := hide hrow; clear hrow hmine hge hgl; obtain ⟨hc, hf⟩ := bcell hb; have hzq := hb.size; (try simp at hzq)) | (go_at_call 17; (with_reducible refine (laws_eqTrack _ _ n2 _ _ T U V _ (RowAt.later (show Below wF.heap.size wF _ from hHeld) Hr3_3.out) (RowAt.later (by first | with_reducible assumption | with_reducible exact Below.refl _ _ | exact (by with_reducible repeat (first | exact Below.refl _ _ | assumption | refine Below.drew ?_ | refine below_drewN ?_ _ | refine bS ?_ | refine bA ?_ | refine bstep ?_ (by assumption)))) Hgt.out) hn3).mono ?_); rintro e w9 ⟨rfl, hb⟩; obtain ⟨hc, hf⟩ := bcell hb))
  all_goals (try go_wp2_with fail)
  refine hK.out _ _ ?_ (fun hH2 => ?_)
  · first | exact bstep hHeld hb | exact hHeld.trans hb | exact hHeld
  clear hK K hHeld; (have hHeld := hH2); clear hH2; (try simp only [pz])
  refine wpAnyH_take (i := 4) (oi := ⟨some 63, _, _, _, _, _⟩) (v := ?_) rfl (by kernel_rfl) (by kernel_rfl) (by kernel_rfl) (fun _ _ _ h => h) (Or.inl ⟨by kernel_rfl, ?_⟩) (by assumption) ?_; rotate_left; focus (intro W0 hSw; go_simp; (try with_reducible rfl)); (try simp only [pz])
  refine wpAnyH_done (by kernel_rfl) ?_ _; (try simp only [pz])
  obtain ⟨wG, rfl⟩ : ∃ W : World, W = w9 := ⟨_, rfl⟩
  clear HkF hc hf hb
  have e0_4 := hide (CoAt.later hHeld e0_3.out)
  have e3_4 := cell_later hHeld e3_3
  have e4_4 := hide (CoAt.later hHeld e4_3.out)
  have e5_4 := cell_later hHeld e5_3
  have H_4 := hide (bstep H_3.out hHeld)
  have HB_4 := hide (HB_3.out.trans (hHeld.mono HB_3.out.size))
  have H0_4 := hide (RowAt.later hHeld H0_3.out)
  have Hm1_4 := hide (Mine.later hHeld Hm1_3.out)
  have Hm3_4 := hide (Mine.later hHeld Hm3_3.out)
  have H1_4 := hide (OwZ.later H1_3.out hHeld)
  have s_4 := hHeld.size
  have sw0_4 : w.heap.size < wG.heap.size := by omega
  have sw1_4 : w.heap.size + 1 < wG.heap.size := by omega
  have sgx_4 : gx < wG.heap.size := by omega
  have sgy_4 : gy < wG.heap.size := by omega
  have sg1_4 : g1 < wG.heap.size := by omega
  have sg3_4 : g3 < wG.heap.size := by omega
  have sX_4 : wX.heap.size ≤ wG.heap.size := by omega
  clear e0_3 e3_3 e4_3 e5_3 H_3 HB_3 H0_3 Hr3_3 Hm1_3 Hm3_3 H1_3
  clear hHeld
  obtain ⟨p0, p1, p2, p3, p4, p5, p6, p7, p8⟩ := e4_4.out
  go_wp2_with fail; (with_reducible refine (laws_markCourse ax ay bx bY cx cy dx dy g1 n n _ Hm1_4.out (by omega) hn).mono ?_); rintro e wH ⟨rfl, hgr⟩
  clear p0 p1 p2 p3 p4 p5 p6 p7 p8
  have kH : Below wB.heap.size wG wH := Below.grown (Below.refl _ _) hgr (by omega) (by intro k hk; simp at hk; omega)
  have f0_wH := hide (CoAt.below kH (by omega) e0_4.out)
  have f3_wH := cell_below kH (by omega) e3_4
  have f5_wH := (gcell hgr gy 0 (by omega) (by omega)).trans e5_4
  have fm_wH := hide (mine_grown Hm3_4.out hgr (by omega) (by omega))
  have fH_wH := hide (H_4.out.trans (kH.mono (by omega)))
  have fB_wH := hide (HB_4.out.trans (kH.mono (by omega)))
  have f9_wH := hide (RowAt.later fB_wH.out H0.out)
  have f1_wH := hide (OwZ.grown H1_4.out hgr (by omega))
  have s_wH := kH.size
  have sw0_wH : w.heap.size < wH.heap.size := by omega
  have sw1_wH : w.heap.size + 1 < wH.heap.size := by omega
  have sgy_wH : gy < wH.heap.size := by omega
  have sg3_wH : g3 < wH.heap.size := by omega
  have sX_wH : wX.heap.size ≤ wH.heap.size := by omega
  clear e0_4 e3_4 e5_4 H_4 HB_4 H0_4 Hm3_4 H1_4 hgr kH
  go_wp2_with fail; (with_reducible refine (laws_markTrack_from g3 n2 n2 (1 + 5 * (n : Int)) _ (by omega) (by omega) fm_wH.out hn3).mono ?_); rintro e wI ⟨rfl, hgr⟩
  have kI : Below wB.heap.size wH wI := Below.grown (Below.refl _ _) hgr (by omega) (by intro k hk; simp at hk; omega)
  have f0_wI := hide (CoAt.below kI (by omega) f0_wH.out)
  have f3_wI := cell_below kI (by omega) f3_wH
  have fH_wI := hide (fH_wH.out.trans (kI.mono (by omega)))
  have fB_wI := hide (fB_wH.out.trans (kI.mono (by omega)))
  have f9_wI := hide (RowAt.later fB_wI.out H0.out)
  have f1_wI := hide (OwZ.grown f1_wH.out hgr (by omega))
  have s_wI := kI.size
  have sw0_wI : w.heap.size < wI.heap.size := by omega
  have sw1_wI : w.heap.size + 1 < wI.heap.size := by omega
  have sgy_wI : gy < wI.heap.size := by omega
  have sg3_wI : g3 < wI.heap.size := by omega
  have sX_wI : wX.heap.size ≤ wI.heap.size := by omega
  clear f0_wH f3_wH fH_wH fB_wH f9_wH f1_wH hgr kI
  have kneg : ¬ (1 + 5 * (n : Int) + 3 * (n2 : Int) < 0) := by omega
  go_wp2_with fail; (with_reducible refine (laws_eqInt64S _ _ L.length _ _ _ _ (OwZ.read f1_wI.out) (f9_wI.out) (by omega)).mono ?_); rintro e wJ ⟨rfl, hbJ⟩
  have e0_5 := hide (CoAt.later hbJ f0_wI.out)
  have e3_5 := cell_later hbJ f3_wI
  have H_5 := hide (bstep fH_wI.out hbJ)
  have HB_5 := hide (fB_wI.out.trans (hbJ.mono fB_wI.out.size))
  have H1_5 := hide (OwZ.later f1_wI.out hbJ)
  have s_5 := hbJ.size
  have sw0_5 : w.heap.size < wJ.heap.size := by omega
  have sw1_5 : w.heap.size + 1 < wJ.heap.size := by omega
  have sgx_5 : gx < wJ.heap.size := by omega
  have sgy_5 : gy < wJ.heap.size := by omega
  have sg1_5 : g1 < wJ.heap.size := by omega
  have sg3_5 : g3 < wJ.heap.size := by omega
  have sX_5 : wX.heap.size ≤ wJ.heap.size := by omega
  clear f0_wI f3_wI fH_wI fB_wI f9_wI f1_wI
  clear hbJ kneg
  obtain ⟨gm, hm1, hm2, hm3⟩ := OwZ.mark H1_5.out
  have Hmm := hide hm3
  clear hm3
  go_wp2_with fail; (with_reducible refine (laws_markInt64S_1 so1 gm L.length cp1 _ hm1 Hmm.out (by omega)).mono ?_); rintro e wK ⟨rfl, hgr, hrowK⟩
  have kK : Below wX.heap.size wJ wK := Below.grown (Below.refl _ _) hgr (by omega) (by intro k hk; simp at hk; omega)
  clear hgr
  have HrowK := hide hrowK
  clear hrowK
  have t0_K := hide (CoAt.below kK (by omega) e0_5.out)
  have t3_K := cell_below kK (by omega) e3_5
  have tH_K := hide (H_5.out.trans (kK.mono (by omega)))
  have tB_K := hide (HB_5.out.trans (kK.mono (by omega)))
  have sK := kK.size
  clear kK e0_5 e3_5 H_5 HB_5 H1_5
  go_wp2_with fail; (with_reducible refine (laws_heldInt64S_1 so1 L.length cp1 _ HrowK.out (by omega)).mono ?_); rintro e wL ⟨rfl, hbL⟩
  have e0_6 := hide (CoAt.later hbL t0_K.out)
  have e3_6 := cell_later hbL t3_K
  have H_6 := hide (bstep tH_K.out hbL)
  have HB_6 := hide (tB_K.out.trans (hbL.mono tB_K.out.size))
  have HM_6 := hide (RowAt.later hbL HrowK.out)
  have s_6 := hbL.size
  have sw0_6 : w.heap.size < wL.heap.size := by omega
  have sw1_6 : w.heap.size + 1 < wL.heap.size := by omega
  have sgx_6 : gx < wL.heap.size := by omega
  have sgy_6 : gy < wL.heap.size := by omega
  have sg1_6 : g1 < wL.heap.size := by omega
  have sg3_6 : g3 < wL.heap.size := by omega
  have sX_6 : wX.heap.size ≤ wL.heap.size := by omega
  clear t0_K t3_K tH_K tB_K HrowK
  clear hbL
  have H0L := hide (RowAt.later HB_6.out H0.out)
  have HhL := hide (RowAt.later H_6.out Hh.out)
  have HkL := hide (RowAt.later H_6.out Hh2.out)
  go_upto_region 31 with fail
  obtain ⟨o0, o1, o2, o3, o4, o5, o6, o7, o8⟩ := e0_6.out
  refine wp_region_held_drew (S := fun W => Below wL.heap.size wL W) (by kernel_rfl) (Below.drew (Below.refl _ _)) (fun hHeld => ?_)
  refine wpAnyH_take (i := 0) (oi := ⟨some 95, _, _, _, _, _⟩) (v := ?_) rfl (by kernel_rfl) (by kernel_rfl) (by kernel_rfl) (fun _ _ _ h => h) (Or.inl ⟨by kernel_rfl, ?_⟩) (by assumption) ?_; rotate_left; focus (intro W0 hSw; have hcS := (bcell hSw).1; go_simp; (try with_reducible rfl)); (try simp only [pz])
  refine wpAnyH_take (i := 2) (oi := ⟨some 97, _, _, _, _, _⟩) (v := ?_) rfl (by kernel_rfl) (by kernel_rfl) (by kernel_rfl) (fun _ _ _ h => h) (Or.inl ⟨by kernel_rfl, ?_⟩) (by assumption) ?_; rotate_left; focus (intro W0 hSw; have hcS := (bcell hSw).1; go_simp; (try with_reducible rfl)); (try simp only [pz])
  refine wpAnyH_ready (rs := [1]) (by kernel_rfl) (by simp) ?_; refine (AllReadyH.cons (o := ⟨some 96, _, _, _, _, _⟩) rfl (fun K hK => ?_) AllReadyH.nil)
  go_simp; (first | (go_at_call 12; (with_reducible refine (laws_toCourse ax ay bx bY cx cy dx dy so n cap N X Y S Z _ (RowAt.later (by with_reducible repeat (first | exact Below.refl _ _ | assumption | refine Below.drew ?_ | refine below_drewN ?_ _ | refine bS ?_ | refine bA ?_ | refine bstep ?_ (by assumption))) HhL.out) hn).mono ?_); rintro e w9 ⟨gc, rfl, hrow, hmine, hge, hgl, hb⟩; have Hgc := hide hrow; clear hrow hmine hge hgl; obtain ⟨hc, hf⟩ := bcell hb; have hzq := hb.size; (try simp at hzq)) | (go_at_call 13; (with_reducible refine (laws_toTrack so2 n2 cap2 T U V _ (RowAt.later (by with_reducible repeat (first | exact Below.refl _ _ | assumption | refine Below.drew ?_ | refine below_drewN ?_ _ | refine bS ?_ | refine bA ?_ | refine bstep ?_ (by assumption))) HkL.out) hn3).mono ?_); rintro e w9 ⟨gt, rfl, hrow, hmine, hge, hgl, hb⟩; have Hgt := hide hrow; clear hrow hmine hge hgl; obtain ⟨hc, hf⟩ := bcell hb; have hzq := hb.size; (try simp at hzq)) | (go_at_call 23; (with_reducible refine (HI.out _ _ _ _ _ (RowAt.later (by first | with_reducible assumption | with_reducible exact Below.refl _ _ | exact (by with_reducible repeat (first | exact Below.refl _ _ | assumption | refine Below.drew ?_ | refine below_drewN ?_ _ | refine bS ?_ | refine bA ?_ | refine bstep ?_ (by assumption)))) Hgc.out) (Nat.le_refl _) (RowAt.later (by first | with_reducible assumption | with_reducible exact Below.refl _ _ | exact (by with_reducible repeat (first | exact Below.refl _ _ | assumption | refine Below.drew ?_ | refine below_drewN ?_ _ | refine bS ?_ | refine bA ?_ | refine bstep ?_ (by assumption)))) Hgt.out)).mono ?_); rintro e w9 ⟨so3, cp3, rfl, hown, hb⟩; have H3 := hide (OwZ.read (OwZ.of hown)); clear hown))
  all_goals (try go_wp2_with fail)
  refine hK.out _ _ ?_ (fun hH2 => ?_)
  · first | exact bstep hHeld hb | exact hHeld.trans hb | exact hHeld
  clear hK K hHeld; (have hHeld := hH2); clear hH2; (try simp only [pz])
  refine wpAnyH_ready (rs := [3]) (by kernel_rfl) (by simp) ?_; refine (AllReadyH.cons (o := ⟨some 98, _, _, _, _, _⟩) rfl (fun K hK => ?_) AllReadyH.nil)
  go_simp; (first | (go_at_call 12; (with_reducible refine (laws_toCourse ax ay bx bY cx cy dx dy so n cap N X Y S Z _ (RowAt.later (by with_reducible repeat (first | exact Below.refl _ _ | assumption | refine Below.drew ?_ | refine below_drewN ?_ _ | refine bS ?_ | refine bA ?_ | refine bstep ?_ (by assumption))) HhL.out) hn).mono ?_); rintro e w9 ⟨gc, rfl, hrow, hmine, hge, hgl, hb⟩; have Hgc := hide hrow; clear hrow hmine hge hgl; obtain ⟨hc, hf⟩ := bcell hb; have hzq := hb.size; (try simp at hzq)) | (go_at_call 13; (with_reducible refine (laws_toTrack so2 n2 cap2 T U V _ (RowAt.later (by with_reducible repeat (first | exact Below.refl _ _ | assumption | refine Below.drew ?_ | refine below_drewN ?_ _ | refine bS ?_ | refine bA ?_ | refine bstep ?_ (by assumption))) HkL.out) hn3).mono ?_); rintro e w9 ⟨gt, rfl, hrow, hmine, hge, hgl, hb⟩; have Hgt := hide hrow; clear hrow hmine hge hgl; obtain ⟨hc, hf⟩ := bcell hb; have hzq := hb.size; (try simp at hzq)) | (go_at_call 23; (with_reducible refine (HI.out _ _ _ _ _ (RowAt.later (by first | with_reducible assumption | with_reducible exact Below.refl _ _ | exact (by with_reducible repeat (first | exact Below.refl _ _ | assumption | refine Below.drew ?_ | refine below_drewN ?_ _ | refine bS ?_ | refine bA ?_ | refine bstep ?_ (by assumption)))) Hgc.out) (Nat.le_refl _) (RowAt.later (by first | with_reducible assumption | with_reducible exact Below.refl _ _ | exact (by with_reducible repeat (first | exact Below.refl _ _ | assumption | refine Below.drew ?_ | refine below_drewN ?_ _ | refine bS ?_ | refine bA ?_ | refine bstep ?_ (by assumption)))) Hgt.out)).mono ?_); rintro e w9 ⟨so3, cp3, rfl, hown, hb⟩; have H3 := hide (OwZ.read (OwZ.of hown)); clear hown))
  all_goals (try go_wp2_with fail)
  refine hK.out _ _ ?_ (fun hH2 => ?_)
  · first | exact bstep hHeld hb | exact hHeld.trans hb | exact hHeld
  clear hK K hHeld; (have hHeld := hH2); clear hH2; (try simp only [pz])
  refine wpAnyH_ready (rs := [4]) (by kernel_rfl) (by simp) ?_; refine (AllReadyH.cons (o := ⟨some 99, _, _, _, _, _⟩) rfl (fun K hK => ?_) AllReadyH.nil)
  go_simp; (first | (go_at_call 12; (with_reducible refine (laws_toCourse ax ay bx bY cx cy dx dy so n cap N X Y S Z _ (RowAt.later (by with_reducible repeat (first | exact Below.refl _ _ | assumption | refine Below.drew ?_ | refine below_drewN ?_ _ | refine bS ?_ | refine bA ?_ | refine bstep ?_ (by assumption))) HhL.out) hn).mono ?_); rintro e w9 ⟨gc, rfl, hrow, hmine, hge, hgl, hb⟩; have Hgc := hide hrow; clear hrow hmine hge hgl; obtain ⟨hc, hf⟩ := bcell hb; have hzq := hb.size; (try simp at hzq)) | (go_at_call 13; (with_reducible refine (laws_toTrack so2 n2 cap2 T U V _ (RowAt.later (by with_reducible repeat (first | exact Below.refl _ _ | assumption | refine Below.drew ?_ | refine below_drewN ?_ _ | refine bS ?_ | refine bA ?_ | refine bstep ?_ (by assumption))) HkL.out) hn3).mono ?_); rintro e w9 ⟨gt, rfl, hrow, hmine, hge, hgl, hb⟩; have Hgt := hide hrow; clear hrow hmine hge hgl; obtain ⟨hc, hf⟩ := bcell hb; have hzq := hb.size; (try simp at hzq)) | (go_at_call 23; (with_reducible refine (HI.out _ _ _ _ _ (RowAt.later (by first | with_reducible assumption | with_reducible exact Below.refl _ _ | exact (by with_reducible repeat (first | exact Below.refl _ _ | assumption | refine Below.drew ?_ | refine below_drewN ?_ _ | refine bS ?_ | refine bA ?_ | refine bstep ?_ (by assumption)))) Hgc.out) (Nat.le_refl _) (RowAt.later (by first | with_reducible assumption | with_reducible exact Below.refl _ _ | exact (by with_reducible repeat (first | exact Below.refl _ _ | assumption | refine Below.drew ?_ | refine below_drewN ?_ _ | refine bS ?_ | refine bA ?_ | refine bstep ?_ (by assumption)))) Hgt.out)).mono ?_); rintro e w9 ⟨so3, cp3, rfl, hown, hb⟩; have H3 := hide (OwZ.read (OwZ.of hown)); clear hown))
  all_goals (try go_wp2_with fail)
  refine hK.out _ _ ?_ (fun hH2 => ?_)
  · first | exact bstep hHeld hb | exact hHeld.trans hb | exact hHeld
  clear hK K hHeld; (have hHeld := hH2); clear hH2; (try simp only [pz])
  refine wpAnyH_take (i := 5) (oi := ⟨some 94, _, _, _, _, _⟩) (v := ?_) rfl (by kernel_rfl) (by kernel_rfl) (by kernel_rfl) (fun _ _ _ h => h) (Or.inl ⟨by kernel_rfl, ?_⟩) (by assumption) ?_; rotate_left; focus (intro W0 hSw; go_simp; (try with_reducible rfl)); (try simp only [pz])
  refine wpAnyH_take (i := 6) (oi := ⟨some 100, _, _, _, _, _⟩) (v := ?_) rfl (by kernel_rfl) (by kernel_rfl) (by kernel_rfl) (fun _ _ _ h => h) (Or.inl ⟨by kernel_rfl, ?_⟩) (by assumption) ?_; rotate_left; focus (intro W0 hSw; go_simp; (try with_reducible rfl)); (try simp only [pz])
  refine wpAnyH_take (i := 7) (oi := ⟨some 101, _, _, _, _, _⟩) (v := ?_) rfl (by kernel_rfl) (by kernel_rfl) (by kernel_rfl) (fun _ _ _ h => h) (Or.inl ⟨by kernel_rfl, ?_⟩) (by assumption) ?_; rotate_left; focus (intro W0 hSw; go_simp; (try with_reducible rfl)); (try simp only [pz])
  refine wpAnyH_take (i := 8) (oi := ⟨some 15, _, _, _, _, _⟩) (v := ?_) rfl (by kernel_rfl) (by kernel_rfl) (by kernel_rfl) (fun _ _ _ h => h) (Or.inl ⟨by kernel_rfl, ?_⟩) (by assumption) ?_; rotate_left; focus (intro W0 hSw; go_simp; (try with_reducible rfl)); (try simp only [pz])
  refine wpAnyH_take (i := 9) (oi := ⟨some 16, _, _, _, _, _⟩) (v := ?_) rfl (by kernel_rfl) (by kernel_rfl) (by kernel_rfl) (fun _ _ _ h => h) (Or.inl ⟨by kernel_rfl, ?_⟩) (by assumption) ?_; rotate_left; focus (intro W0 hSw; go_simp; (try with_reducible rfl)); (try simp only [pz])
  refine wpAnyH_done (by kernel_rfl) ?_ _; (try simp only [pz])
  obtain ⟨wM, rfl⟩ : ∃ W : World, W = w9 := ⟨_, rfl⟩
  have HM2 := hide (bstep H_6.out hHeld)
  have H0M := hide (RowAt.later hHeld H0L.out)
  have HrowM := hide (RowAt.later hHeld HM_6.out)
  clear o0 o1 o2 o3 o4 o5 o6 o7 o8 hb hHeld e0_6 e3_6 HB_6 HM_6 H0L HhL HkL
  go_wp2_with fail; (with_reducible refine (laws_eqInt64S _ _ L.length _ _ _ _ (H3.out) (H0M.out) (by omega)).mono ?_); rintro e wN ⟨rfl, hbN⟩
  have HN2 := hide (bstep HM2.out hbN)
  have HrowN := hide (RowAt.later hbN HrowM.out)
  clear hbN
  go_wp2_with fail; (with_reducible refine (laws_heldInt64S_1 so1 L.length cp1 _ HrowN.out (by omega)).mono ?_); rintro e wO ⟨rfl, hbO⟩
  have HO2 := hide (bstep HN2.out hbO)
  clear hbO
  go_wp2
  go_ret
  exact ⟨rfl, HO2.out⟩

set_option maxRecDepth 100000 in
theorem FnExactLegTimes_lifted (os : Os) (started : os.Started) (H : Type) (enc : TypeId × Value → H) :
    ReturnsInHanded {} Tryz.checked os 4 .any (fun w args => (Rows.fnExactLegTimesSpec.pre enc Tryz.prog Tryz.f4 [] false w args ∧ laidMetH Tryz.prog Rows.fnExactLegTimesRow.laid w) ∧ sizedMet enc Tryz.prog Tryz.f4 (OpenSpec.ofChange Rows.fnExactLegTimesSpec) false w args) (Rows.fnExactLegTimesSpec.post enc Tryz.prog Tryz.f4 false true false false) := by
  refine returnsInHanded_of_change_and (C := Tryz.checked) (X := fun w _ => laidMetH Tryz.prog Rows.fnExactLegTimesRow.laid w) (fun _ _ _ hh h => h.of_heap hh) Tryz.own started (by as_aux_lemma => kernel_rfl) Tryz.func4
    (ChangeSpec.witness_shaped (enc := enc) (C := Tryz.checked) (os := os) (X := fun w _ => laidMetH Tryz.prog Rows.fnExactLegTimesRow.laid w) false (World.laidAll Tryz.prog os Rows.fnExactLegTimesRow.laid) #[.agg #[.int .i64 0, .int .i64 0, .int .i64 0, .int .i64 0, .int .i64 0, .int .i64 0, .int .i64 0, .int .i64 0, .slice none 0 0], .agg #[.slice none 0 0]] 8 (World.laidAll_os _ _ _) (World.shaped_of_ZipB (by as_aux_lemma => kernel_rfl) (by as_aux_lemma => kernel_rfl)) (by as_aux_lemma => kernel_rfl) (by as_aux_lemma => kernel_rfl) (by as_aux_lemma => kernel_rfl) (by rw [MakeChecks.laidMetH_plain _ _ _ (by as_aux_lemma => kernel_rfl)]; exact laidMet_laidAll _ (by as_aux_lemma => kernel_rfl) (by as_aux_lemma => kernel_rfl))) ?_
  intro W base args ds gs before hval0 hW _ _ hL _
  have hval : ∀ (j : Nat) t v, Tryz.f4.params[j]? = some t → args[j]? = some v → Value.okWide Tryz.prog W .any base t v := hval0
  have hW' := hW
  obtain ⟨p, q, hA0, hV, rfl, _, _⟩ := hW
  have hA : DataW.TrodAll enc Tryz.prog W 0 (fun _ => true) true Tryz.f4.params.toList args.toList ds p := hA0
  rw [Tryz.params4] at hA hval
  obtain ⟨v0, vs0, d0, ds0, p0, q0, hargs, rfl, rfl, h0, r0⟩ := trodAll_cons hA
  obtain ⟨v1, vs1, d1, ds1, p1, q1, rfl, rfl, rfl, h1, r1⟩ := trodAll_cons r0
  obtain ⟨rfl, rfl, rfl⟩ := trodAll_nil r1
  obtain rfl : args = #[v0, v1] := by cases args; simp_all
  obtain ⟨ax0, ay0, bx0, bY0, cx0, cy0, dx0, dy0, so0, n0, cp0, N0, X0, Y0, S0, Z0, rfl, hl0, hr0, hN0⟩ := op_course (hval 0 28 v0 rfl rfl) h0
  obtain ⟨so1, n1, cp1, T1, X1, Y1, rfl, hl1, hr1⟩ := op_track (hval 1 31 v1 rfl rfl) h1
  obtain ⟨rfl, rfl⟩ := trodVars_none hV
  refine (laws_FnExactLegTimes ax0 ay0 bx0 bY0 cx0 cy0 dx0 dy0 so0 n0 cp0 N0 X0 Y0 S0 Z0 so1 n1 cp1 T1 X1 Y1 W hl0 hr0 hN0 hl1 hr1).mono fun e W1 ⟨he, hb⟩ => ⟨_, he, ?_⟩
  exact law_post Tryz.laidOut (by as_aux_lemma => kernel_rfl) Tryz.underlying4 rfl rfl hW' rfl rfl rfl hb
set_option maxHeartbeats 8000000 in
theorem FnExactLegTimes_closed : joinedFacts Tryz.prog 4 Tryz.f4 Rows.fnExactLegTimesSpec Rows.fnExactLegTimesRow = true := by
  simp only [joinedFacts, Bool.and_eq_true, Tryz.laidOut, Tryz.mapsRowed, Tryz.stopsNone, Tryz.stopKnobsNone, Tryz.plainKeysIs, Tryz.stopsHeardIs, Tryz.mayEnterIs, Tryz.liftsFinalIs, Tryz.makeIs, and_true, true_and]
  repeat' (with_reducible refine And.intro ?_ ?_)
  all_goals (as_aux_lemma => kernel_rfl)
set_option maxHeartbeats 8000000 in
/-- FnExactLegTimes: whatever the input, the law returns true, and the input reads as it did. -/
theorem FnExactLegTimes_row : Rows.FnExactLegTimesSaid :=
  OpenClaim.holds_of_wide 4 Tryz.f4 rfl rfl rfl rfl rfl rfl rfl ⟨rfl, rfl, rfl, rfl, rfl⟩ rfl rfl rfl rfl rfl (by as_aux_lemma => kernel_rfl) Tryz.func4
    FnExactLegTimes_closed
    (of_decide_eq_true (by as_aux_lemma => kernel_rfl)) (by unfold Func.isWrapper; rw [if_neg (of_decide_eq_false (by as_aux_lemma => kernel_rfl))]; exact ⟨rfl, rfl⟩)
    (fun os started H enc _ => FnExactLegTimes_lifted os started H enc)

set_option maxHeartbeats 8000000 in
/-- FnExactLegTimes: the tied card. -/
theorem FnExactLegTimes_holds : Rows.FnExactLegTimesCardSaid :=
  Claim7.holds_tied_plain_at .later [] [.data, .pinned] true (true, "9a2dcc0a57a5abead947a61da1be33c7cfa3b5f2fdefc6b895eb063848c4a931") false
    FnExactLegTimes_row (fun _ h => by cases h) (by as_aux_lemma => kernel_rfl) (fun _ h => by cases h) fnExactLegTimes_row_tie rfl ⟨rfl, rfl⟩ (by as_aux_lemma => kernel_rfl) rfl
    (fun f fn hf hfn => by
      obtain rfl : f = 4 := Option.some.inj ((show Tryz.prog.funcNamed Rows.fnExactLegTimesRow.func = some 4 by kernel_rfl).symm.trans hf) |>.symm
      obtain rfl : fn = Tryz.f4 := (Option.some.inj (Tryz.func4.symm.trans hfn)).symm
      exact ⟨by kernel_rfl, fun j t ht => by
        rw [Tryz.params4] at ht
        have hm : t ∈ [28, 31] := by simpa using Array.mem_of_getElem? ht
        have hall : ([28, 31].all fun u => !Tryz.prog.wantsStandIn u) = true := by kernel_rfl
        exact (show Tryz.prog.wantsStandIn t = false by simpa using List.all_eq_true.1 hall t hm)⟩)
    (by as_aux_lemma => kernel_rfl)
#print axioms FnExactLegTimes_holds
end Go.Proofs.YtlhllidkkjledaaGreatDoor
