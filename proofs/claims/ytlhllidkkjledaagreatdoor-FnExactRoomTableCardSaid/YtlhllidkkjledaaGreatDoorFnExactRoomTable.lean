/- RoomTable of the program returns what the reference's returns, in memory of its own, for every course, list of tracks and what goes with them. What the program's text lays in the library's table is all that the card takes. -/
import Derived.Test.YtlhllidkkjledaaGreatDoorRb
import Derived.Test.YtlhllidkkjledaaGreatDoorTn
import Derived.Test.YtlhllidkkjledaaGreatDoorMk
import Derived.Test.YtlhllidkkjledaaGreatDoorBs
import Derived.Test.YtlhllidkkjledaaGreatDoorCd
import Derived.Test.YtlhllidkkjledaaGreatDoorLaw
import Derived.Test.YtlhllidkkjledaaGreatDoorTie
import Derived.Test.YtlhllidkkjledaaGreatDoorCards
import Derived.Lay
import Derived.LaidMore
import Derived.OpenShut
import Derived.ChangeMaps5
import Derived.Stop.Joined
import Derived.SevenTiedAt
import Derived.Deep.DeepCutAuto
namespace Go.Proofs.YtlhllidkkjledaaGreatDoor
open Go.ChangeShapes Go.WideShapes Go.ChangeAt Go.RowKit

theorem CoAt.below {w W : World} {B b : Nat} {ax ay bx bY cx cy dx dy : Int} {so : Option Addr} {n cap : Nat} (hb : Below B w W) (hB : b < B) (h : CoAt w b ax ay bx bY cx cy dx dy so n cap) : CoAt W b ax ay bx bY cx cy dx dy so n cap := by
  obtain ⟨h0, h1, h2, h3, h4, h5, h6, h7, h8⟩ := h
  exact ⟨cell_below hb hB h0, cell_below hb hB h1, cell_below hb hB h2, cell_below hb hB h3, cell_below hb hB h4, cell_below hb hB h5, cell_below hb hB h6, cell_below hb hB h7, cell_below hb hB h8⟩
theorem rbN_le (m : Nat) (c : Int) : rbN m c ≤ 16 := by
  unfold rbN
  split
  · rename_i h
    simp only [Bool.and_eq_true, decide_eq_true_eq] at h
    exact h.1
  · exact Nat.zero_le _
theorem rbN_row {m : Nat} {c : Int} (Q : Nat → Nat → Bool) (j : Nat) (hj : j < rbN m c) : (kcL Q j m).length ≤ 16 := by
  have h1 := rbN_le m c
  have h2 : rbN m c = m := by
    unfold rbN at hj ⊢
    split
    · rfl
    · rename_i h; rw [if_neg h] at hj; exact absurd hj (Nat.not_lt_zero _)
  have := kcL_len Q j m
  omega
set_option maxRecDepth 100000 in
set_option maxHeartbeats 16000000 in
theorem laws_FnExactRoomTable (wx wy : Int) (ax ay bx bY cx cy dx dy : Int) (so : Option Addr) (n cap : Nat) (N : Nat → ByteArray) (X Y S Z : Nat → Int) (k : Int) (so2 : Option Addr) (m cap2 : Nat) (A : Nat → Option Addr) (nn C : Nat → Nat) (T U V : Nat → Nat → Int) (len : Int) (w : World) (hl : n ≤ maxLen) (h : RowAt w so n 5 (v5 N X Y S Z)) (hN : ∀ i, (N i).size ≤ maxLen) (hl2 : m ≤ maxLen) (h2 : Trs w so2 m A nn C T U V) (hnn : ∀ i, nn i ≤ maxLen) :
    Calls Tryz.prog 8 #[.agg #[.int .i64 wx, .int .i64 wy], .agg #[.int .i64 ax, .int .i64 ay, .int .i64 bx, .int .i64 bY, .int .i64 cx, .int .i64 cy, .int .i64 dx, .int .i64 dy, .slice so n cap], .int .i64 k, .slice so2 m cap2, .int .i64 len] w fun e w' => e = .returned (.bool true) ∧ Below w.heap.size w w' := by
  have KZ := hide (fun W (hb : Below w.heap.size w W) => laws_szCourse ax ay bx bY cx cy dx dy so n cap N X Y S Z 1048576 W (RowAt.later hb h) hN hl (by decide) (by decide))
  have KY := hide (fun W x (hb : Below w.heap.size w W) h0 h1 => laws_szTrackS so2 m cap2 A nn C T U V x W (Trs.later hb h2) (Nat.le_trans hl2 (by decide)) (fun i => Nat.le_trans (hnn i) (by decide)) h0 h1)
  unfold maxLen at hl hl2
  have Hh := hide h
  have Hh2 := hide h2
  clear h h2 hN hnn
  go_enter Tryz.func8, Tryz.ntmps8
  go_wp2_with fail; (with_reducible refine (KZ.out _ (by with_reducible repeat (first | exact Below.refl _ _ | assumption | refine Below.drew ?_ | refine below_drewN ?_ _ | refine bS ?_ | refine bA ?_ | refine bstep ?_ (by assumption)))).mono ?_); rintro e w1 ⟨x, rfl, hq, hb⟩; obtain ⟨hc, hf⟩ := bcell hb; have hz := hb.size; have z0 : w.heap.size < w1.heap.size := (by first | omega | (simp at hz; omega)); have z1 : w.heap.size + 1 < w1.heap.size := (by first | omega | (simp at hz; omega))
  have HB1 := hide (show Below w.heap.size w w1 from (by with_reducible repeat (first | exact Below.refl _ _ | assumption | refine Below.drew ?_ | refine below_drewN ?_ _ | refine bS ?_ | refine bA ?_ | refine bstep ?_ (by assumption))))
  rcases hq with rfl | ⟨k1, k2, k3⟩
  · go_wp2
    go_ret
    exact ⟨rfl, HB1.out⟩
  have k4 : ¬ x < 0 := by omega
  go_wp2_with fail; (with_reducible refine (KY.out _ x HB1.out (by omega) (by omega)).mono ?_); rintro e wA ⟨⟨x2, rfl, hq⟩, hb2⟩
  have a0 := hide (show CoAt wA (w.heap.size + 1) ax ay bx bY cx cy dx dy so n cap from ⟨cell_later hb2 (by go_simp), cell_later hb2 (by go_simp), cell_later hb2 (by go_simp), cell_later hb2 (by go_simp), cell_later hb2 (by go_simp), cell_later hb2 (by go_simp), cell_later hb2 (by go_simp), cell_later hb2 (by go_simp), cell_later hb2 (by go_simp)⟩)
  have aw0 : wA.cell? ⟨w.heap.size, 0, none⟩ = some (.int .i64 wx) := cell_later hb2 (by go_simp)
  have aw1 : wA.cell? ⟨w.heap.size, 1, none⟩ = some (.int .i64 wy) := cell_later hb2 (by go_simp)
  have HA := hide (bstep HB1.out hb2)
  rcases hq with rfl | ⟨q1, q2, q3, q4⟩
  · go_wp2
    go_ret
    exact ⟨rfl, HA.out⟩
  have q5 : ¬ x2 < 0 := by omega
  have hn : n ≤ 1048576 := by omega
  have HS := hide (fun W so cp so' cp' A' C' (hr : RowAt W so n 5 (v5 N X Y S Z)) (hr' : Trs W so' m A' nn C' T U V) => spec_RoomTable wx wy ax ay bx bY cx cy dx dy so n cp N X Y S Z k so' m cp' A' nn C' T U V len W hr hn hr' q3 q4)
  have HI := hide (fun W so cp so' cp' A' C' (hr : RowAt W so n 5 (v5 N X Y S Z)) (hcp : n ≤ cp) (hr' : Trs W so' m A' nn C' T U V) => impl_RoomTable wx wy ax ay bx bY cx cy dx dy so n cp N X Y S Z k so' m cp' A' nn C' T U V len W hr hn hcp hr' q3 q4)
  have HC := hide (fun W (hb : Below w.heap.size w W) => laws_toCourse ax ay bx bY cx cy dx dy so n cap N X Y S Z W (RowAt.later hb Hh.out) hn)
  have HT := hide (fun W (hb : Below w.heap.size w W) => laws_toTrackS_m so2 m cap2 A nn C T U V W (Trs.later hb Hh2.out) q3 q4)
  have HQ := hide (fun W s1 c1 s2 c2 A1 A2 C1 C2 (r1 : Trs W s1 m A1 nn C1 T U V) (r2 : Trs W s2 m A2 nn C2 T U V) => laws_eqTrackS s1 s2 m c1 c2 A1 A2 nn C1 C2 T U V W r1 r2 q3 q4)
  have Q4 := hide q4
  have HLn := rbN_le m (rmC5 (isWd wx wy) (isCo ax ay bx bY cx cy dx dy n N X Y S Z) (allTr nn T U V m) n k len)
  have HR9 := hide (show ∀ j, j < rbN m (rmC5 (isWd wx wy) (isCo ax ay bx bY cx cy dx dy n N X Y S Z) (allTr nn T U V m) n k len) → ((fun j => kcL (rbQ wx wy (X k.toNat) (Y k.toNat) (Z k.toNat) nn T U V len) j m) j).length ≤ 16 from fun j hj => rbN_row (rbQ wx wy (X k.toNat) (Y k.toNat) (Z k.toNat) nn T U V len) j hj)
  generalize rbC m (rmC5 (isWd wx wy) (isCo ax ay bx bY cx cy dx dy n N X Y S Z) (allTr nn T U V m) n k len) = cd at *
  generalize rbN m (rmC5 (isWd wx wy) (isCo ax ay bx bY cx cy dx dy n N X Y S Z) (allTr nn T U V m) n k len) = m9 at *
  generalize (fun j => kcL (rbQ wx wy (X k.toNat) (Y k.toNat) (Z k.toNat) nn T U V len) j m) = R9 at *
  clear KZ KY hb hc hf hz hb2 HB1 k1 k2 k3 k4 q1 q2 q4 z0 z1
  have zA0 : w.heap.size + 1 < wA.heap.size := by have := World.block_lt_of_cell? _ _ a0.out.1; exact this
  have zA1 : w.heap.size < wA.heap.size := by omega
  go_upto_region 8 with fail
  go_cut [12, 13] (fun s1 s2 W => ∃ (so0 : Option Addr) (cp0 : Nat), s1 = .slice so0 m9 cp0 ∧ s2 = .int .i64 cd ∧ RdT W so0 m9 R9 ∧ Below wA.heap.size wA W)
  case first =>
    obtain ⟨o0, o1, o2, o3, o4, o5, o6, o7, o8⟩ := a0.out
    refine wp_region_held_drew (S := fun W => Below wA.heap.size wA W) (by kernel_rfl) (Below.drew (by first | with_reducible exact Below.refl _ _ | with_reducible exact below_drewN (Below.refl _ _) _)) (fun hHeld => ?_)
    refine wpAnyH_take (i := 0) (oi := ⟨some 34, _, _, _, _, _⟩) (v := ?_) rfl (by kernel_rfl) (by kernel_rfl) (by kernel_rfl) (fun _ _ _ h => h) (Or.inl ⟨by kernel_rfl, ?_⟩) (by assumption) ?_; rotate_left; focus (intro W0 hSw; have hcS := (bcell hSw).1; go_simp; (try with_reducible rfl)); (try simp only [pz])
    refine wpAnyH_take (i := 2) (oi := ⟨some 36, _, _, _, _, _⟩) (v := ?_) rfl (by kernel_rfl) (by kernel_rfl) (by kernel_rfl) (fun _ _ _ h => h) (Or.inl ⟨by kernel_rfl, ?_⟩) (by assumption) ?_; rotate_left; focus (intro W0 hSw; have hcS := (bcell hSw).1; go_simp; (try with_reducible rfl)); (try simp only [pz])
    refine wpAnyH_take (i := 4) (oi := ⟨some 38, _, _, _, _, _⟩) (v := ?_) rfl (by kernel_rfl) (by kernel_rfl) (by kernel_rfl) (fun _ _ _ h => h) (Or.inl ⟨by kernel_rfl, ?_⟩) (by assumption) ?_; rotate_left; focus (intro W0 hSw; go_simp; (try with_reducible rfl)); (try simp only [pz])
    refine wpAnyH_take (i := 5) (oi := ⟨some 39, _, _, _, _, _⟩) (v := ?_) rfl (by kernel_rfl) (by kernel_rfl) (by kernel_rfl) (fun _ _ _ h => h) (Or.inl ⟨by kernel_rfl, ?_⟩) (by assumption) ?_; rotate_left; focus (intro W0 hSw; go_simp; (try with_reducible rfl)); (try simp only [pz])
    refine wpAnyH_take (i := 7) (oi := ⟨some 41, _, _, _, _, _⟩) (v := ?_) rfl (by kernel_rfl) (by kernel_rfl) (by kernel_rfl) (fun _ _ _ h => h) (Or.inl ⟨by kernel_rfl, ?_⟩) (by assumption) ?_; rotate_left; focus (intro W0 hSw; go_simp; (try with_reducible rfl)); (try simp only [pz])
    refine wpAnyH_inv2 (fuel := 0) [1, 3, 6, 8, 9, 10, 11, 12, 13] [] [35, 37, 40, 42, 33, 43, 44, 12, 13] (fun uT L W => Below wA.heap.size wA W ∧ (L 1 → (uT 35) = (.agg #[.int .i64 wx, .int .i64 wy])) ∧ (L 3 → FCo ax ay bx bY cx cy dx dy n N X Y S Z (uT 37) W) ∧ (L 6 → FTs m nn T U V (uT 40) W) ∧ (L 8 → FRs m9 R9 cd (uT 42) W) ∧ (L 9 → FRs m9 R9 cd (uT 33) W) ∧ (L 10 → FRl m9 R9 (uT 43) W) ∧ (L 11 → (uT 44) = (.int .i64 cd)) ∧ (L 12 → FRl m9 R9 (uT 12) W) ∧ (L 13 → (uT 13) = (.int .i64 cd)) ∧ True) (by decide) (by kernel_rfl) (by kernel_rfl) (by intro _ _ _ _ _ h; exact h) (fun uT L W hJ => hJ.1) (fun uT L hL => ⟨hHeld, fun k => absurd k (hL 1 (by decide)), fun k => absurd k (hL 3 (by decide)), fun k => absurd k (hL 6 (by decide)), fun k => absurd k (hL 8 (by decide)), fun k => absurd k (hL 9 (by decide)), fun k => absurd k (hL 10 (by decide)), fun k => absurd k (hL 11 (by decide)), fun k => absurd k (hL 12 (by decide)), fun k => absurd k (hL 13 (by decide)), trivial⟩) ?_ ?_ ?_
    · refine StepsH.cons (d := 35) (o := ⟨some 35, _, _, _, _, _⟩) rfl rfl (by kernel_rfl) ?_ ?_
      rotate_left
      refine StepsH.cons (d := 37) (o := ⟨some 37, _, _, _, _, _⟩) rfl rfl (by kernel_rfl) ?_ ?_
      rotate_left
      refine StepsH.cons (d := 40) (o := ⟨some 40, _, _, _, _, _⟩) rfl rfl (by kernel_rfl) ?_ ?_
      rotate_left
      refine StepsH.cons (d := 42) (o := ⟨some 42, _, _, _, _, _⟩) rfl rfl (by kernel_rfl) ?_ ?_
      rotate_left
      refine StepsH.cons (d := 33) (o := ⟨some 33, _, _, _, _, _⟩) rfl rfl (by kernel_rfl) ?_ ?_
      rotate_left
      refine StepsH.cons (d := 43) (o := ⟨some 43, _, _, _, _, _⟩) rfl rfl (by kernel_rfl) ?_ ?_
      rotate_left
      refine StepsH.cons (d := 44) (o := ⟨some 44, _, _, _, _, _⟩) rfl rfl (by kernel_rfl) ?_ ?_
      rotate_left
      refine StepsH.cons (d := 12) (o := ⟨some 12, _, _, _, _, _⟩) rfl rfl (by kernel_rfl) ?_ ?_
      rotate_left
      refine StepsH.cons (d := 13) (o := ⟨some 13, _, _, _, _, _⟩) rfl rfl (by kernel_rfl) ?_ ?_
      rotate_left
      exact StepsH.nil
      · intro uT L W hn hd hJ
        obtain ⟨hk, f35, f37, f40, f42, f33, f43, f44, f12, f13, _⟩ := hJ
        intro K hK
        simp only [puts, pz]
        go_simp; (first | (go_at_call 27; (with_reducible refine (laws_toWind _ _ _).mono ?_); rintro e w9 ⟨rfl, hb⟩) | (go_at_call 12; (with_reducible refine (HC.out _ (bstep HA.out hk)).mono ?_); rintro e w9 ⟨gc, rfl, hrow, hmine, hge, hgl, hb⟩; have Hgc := hide hrow; clear hrow hmine hge hgl) | (go_at_call 32; (with_reducible refine (HT.out _ (bstep HA.out hk)).mono ?_); rintro e w9 ⟨gt, G, rfl, ht, htm, hb⟩; have Hgt := hide ht; clear ht htm) | (go_at_call 36; (with_reducible refine ((HS.out _ _ _ _ _ _ _ hr37 hr40)).mono ?_); rintro e w9 ⟨so0, cp0, rfl, hown, hb⟩; have Hrs := hide (hown); clear hown))
        all_goals (try go_wp2_with fail)
        all_goals
          apply Shut.go4 (W := W) hK
          · simp only [puts, pz]; rfl
          · first | with_reducible assumption | with_reducible exact Below.refl _ _ | exact Below.alloc (Below.refl _ _) (Nat.le_refl _) _
          · intro hb; exact ⟨bstep hk hb, fun _ => upd_same _ _ _, fun k => by rw [upd_ne uT _ (by decide)]; exact FCo.later hb (f37 (k.resolve_left (by decide))), fun k => by rw [upd_ne uT _ (by decide)]; exact FTs.later hb (f40 (k.resolve_left (by decide))), fun k => by rw [upd_ne uT _ (by decide)]; exact FRs.later hb (f42 (k.resolve_left (by decide))), fun k => by rw [upd_ne uT _ (by decide)]; exact FRs.later hb (f33 (k.resolve_left (by decide))), fun k => by rw [upd_ne uT _ (by decide)]; exact FRl.later hb (f43 (k.resolve_left (by decide))), fun k => by rw [upd_ne uT _ (by decide)]; exact (f44 (k.resolve_left (by decide))), fun k => by rw [upd_ne uT _ (by decide)]; exact FRl.later hb (f12 (k.resolve_left (by decide))), fun k => by rw [upd_ne uT _ (by decide)]; exact (f13 (k.resolve_left (by decide))), trivial⟩
      · intro uT L W hn hd hJ
        obtain ⟨hk, f35, f37, f40, f42, f33, f43, f44, f12, f13, _⟩ := hJ
        intro K hK
        simp only [puts, pz]
        go_simp; (first | (go_at_call 27; (with_reducible refine (laws_toWind _ _ _).mono ?_); rintro e w9 ⟨rfl, hb⟩) | (go_at_call 12; (with_reducible refine (HC.out _ (bstep HA.out hk)).mono ?_); rintro e w9 ⟨gc, rfl, hrow, hmine, hge, hgl, hb⟩; have Hgc := hide hrow; clear hrow hmine hge hgl) | (go_at_call 32; (with_reducible refine (HT.out _ (bstep HA.out hk)).mono ?_); rintro e w9 ⟨gt, G, rfl, ht, htm, hb⟩; have Hgt := hide ht; clear ht htm) | (go_at_call 36; (with_reducible refine ((HS.out _ _ _ _ _ _ _ hr37 hr40)).mono ?_); rintro e w9 ⟨so0, cp0, rfl, hown, hb⟩; have Hrs := hide (hown); clear hown))
        all_goals (try go_wp2_with fail)
        all_goals
          apply Shut.go4 (W := W) hK
          · simp only [puts, pz]; rfl
          · first | with_reducible assumption | with_reducible exact Below.refl _ _ | exact Below.alloc (Below.refl _ _) (Nat.le_refl _) _
          · intro hb; exact ⟨bstep hk hb, fun k => by rw [upd_ne uT _ (by decide)]; exact (f35 (k.resolve_left (by decide))), fun _ => by rw [upd_same]; exact ⟨_, rfl, Hgc.out⟩, fun k => by rw [upd_ne uT _ (by decide)]; exact FTs.later hb (f40 (k.resolve_left (by decide))), fun k => by rw [upd_ne uT _ (by decide)]; exact FRs.later hb (f42 (k.resolve_left (by decide))), fun k => by rw [upd_ne uT _ (by decide)]; exact FRs.later hb (f33 (k.resolve_left (by decide))), fun k => by rw [upd_ne uT _ (by decide)]; exact FRl.later hb (f43 (k.resolve_left (by decide))), fun k => by rw [upd_ne uT _ (by decide)]; exact (f44 (k.resolve_left (by decide))), fun k => by rw [upd_ne uT _ (by decide)]; exact FRl.later hb (f12 (k.resolve_left (by decide))), fun k => by rw [upd_ne uT _ (by decide)]; exact (f13 (k.resolve_left (by decide))), trivial⟩
      · intro uT L W hn hd hJ
        obtain ⟨hk, f35, f37, f40, f42, f33, f43, f44, f12, f13, _⟩ := hJ
        intro K hK
        simp only [puts, pz]
        go_simp; (first | (go_at_call 27; (with_reducible refine (laws_toWind _ _ _).mono ?_); rintro e w9 ⟨rfl, hb⟩) | (go_at_call 12; (with_reducible refine (HC.out _ (bstep HA.out hk)).mono ?_); rintro e w9 ⟨gc, rfl, hrow, hmine, hge, hgl, hb⟩; have Hgc := hide hrow; clear hrow hmine hge hgl) | (go_at_call 32; (with_reducible refine (HT.out _ (bstep HA.out hk)).mono ?_); rintro e w9 ⟨gt, G, rfl, ht, htm, hb⟩; have Hgt := hide ht; clear ht htm) | (go_at_call 36; (with_reducible refine ((HS.out _ _ _ _ _ _ _ hr37 hr40)).mono ?_); rintro e w9 ⟨so0, cp0, rfl, hown, hb⟩; have Hrs := hide (hown); clear hown))
        all_goals (try go_wp2_with fail)
        all_goals
          apply Shut.go4 (W := W) hK
          · simp only [puts, pz]; rfl
          · first | with_reducible assumption | with_reducible exact Below.refl _ _ | exact Below.alloc (Below.refl _ _) (Nat.le_refl _) _
          · intro hb; exact ⟨bstep hk hb, fun k => by rw [upd_ne uT _ (by decide)]; exact (f35 (k.resolve_left (by decide))), fun k => by rw [upd_ne uT _ (by decide)]; exact FCo.later hb (f37 (k.resolve_left (by decide))), fun _ => by rw [upd_same]; exact ⟨_, _, rfl, Hgt.out⟩, fun k => by rw [upd_ne uT _ (by decide)]; exact FRs.later hb (f42 (k.resolve_left (by decide))), fun k => by rw [upd_ne uT _ (by decide)]; exact FRs.later hb (f33 (k.resolve_left (by decide))), fun k => by rw [upd_ne uT _ (by decide)]; exact FRl.later hb (f43 (k.resolve_left (by decide))), fun k => by rw [upd_ne uT _ (by decide)]; exact (f44 (k.resolve_left (by decide))), fun k => by rw [upd_ne uT _ (by decide)]; exact FRl.later hb (f12 (k.resolve_left (by decide))), fun k => by rw [upd_ne uT _ (by decide)]; exact (f13 (k.resolve_left (by decide))), trivial⟩
      · intro uT L W hn hd hJ
        obtain ⟨hk, f35, f37, f40, f42, f33, f43, f44, f12, f13, _⟩ := hJ
        obtain e35 := f35 (hd 1 (by kernel_rfl))
        obtain ⟨gc37, e37, hr37⟩ := f37 (hd 3 (by kernel_rfl))
        obtain ⟨gt40, G40, e40, hr40⟩ := f40 (hd 6 (by kernel_rfl))
        intro K hK
        simp only [puts, pz, e35, e37, e40]
        go_simp; (first | (go_at_call 27; (with_reducible refine (laws_toWind _ _ _).mono ?_); rintro e w9 ⟨rfl, hb⟩) | (go_at_call 12; (with_reducible refine (HC.out _ (bstep HA.out hk)).mono ?_); rintro e w9 ⟨gc, rfl, hrow, hmine, hge, hgl, hb⟩; have Hgc := hide hrow; clear hrow hmine hge hgl) | (go_at_call 32; (with_reducible refine (HT.out _ (bstep HA.out hk)).mono ?_); rintro e w9 ⟨gt, G, rfl, ht, htm, hb⟩; have Hgt := hide ht; clear ht htm) | (go_at_call 36; (with_reducible refine ((HS.out _ _ _ _ _ _ _ hr37 hr40)).mono ?_); rintro e w9 ⟨so0, cp0, rfl, hown, hb⟩; have Hrs := hide (hown); clear hown))
        all_goals (try go_wp2_with fail)
        all_goals
          apply Shut.go4 (W := W) hK
          · simp only [puts, pz, e35, e37, e40]; rfl
          · first | with_reducible assumption | with_reducible exact Below.refl _ _ | exact Below.alloc (Below.refl _ _) (Nat.le_refl _) _
          · intro hb; exact ⟨bstep hk hb, fun k => by rw [upd_ne uT _ (by decide)]; exact (f35 (k.resolve_left (by decide))), fun k => by rw [upd_ne uT _ (by decide)]; exact FCo.later hb (f37 (k.resolve_left (by decide))), fun k => by rw [upd_ne uT _ (by decide)]; exact FTs.later hb (f40 (k.resolve_left (by decide))), fun _ => by rw [upd_same]; exact ⟨_, _, rfl, Hrs.out⟩, fun k => by rw [upd_ne uT _ (by decide)]; exact FRs.later hb (f33 (k.resolve_left (by decide))), fun k => by rw [upd_ne uT _ (by decide)]; exact FRl.later hb (f43 (k.resolve_left (by decide))), fun k => by rw [upd_ne uT _ (by decide)]; exact (f44 (k.resolve_left (by decide))), fun k => by rw [upd_ne uT _ (by decide)]; exact FRl.later hb (f12 (k.resolve_left (by decide))), fun k => by rw [upd_ne uT _ (by decide)]; exact (f13 (k.resolve_left (by decide))), trivial⟩
      · intro uT L W hn hd hJ
        obtain ⟨hk, f35, f37, f40, f42, f33, f43, f44, f12, f13, _⟩ := hJ
        obtain ⟨so42, cp42, e42, hr42⟩ := f42 (hd 8 (by kernel_rfl))
        intro K hK
        simp only [puts, pz, e42]
        go_simp
        all_goals (try go_wp2_with fail)
        all_goals
          apply Shut.go4 (W := W) hK
          · simp only [puts, pz, e42]; rfl
          · first | with_reducible assumption | with_reducible exact Below.refl _ _ | exact Below.alloc (Below.refl _ _) (Nat.le_refl _) _
          · intro hb; exact ⟨bstep hk hb, fun k => by rw [upd_ne uT _ (by decide)]; exact (f35 (k.resolve_left (by decide))), fun k => by rw [upd_ne uT _ (by decide)]; exact FCo.later hb (f37 (k.resolve_left (by decide))), fun k => by rw [upd_ne uT _ (by decide)]; exact FTs.later hb (f40 (k.resolve_left (by decide))), fun k => by rw [upd_ne uT _ (by decide)]; exact FRs.later hb (f42 (k.resolve_left (by decide))), fun _ => by rw [upd_same]; exact ⟨_, _, rfl, hr42⟩, fun k => by rw [upd_ne uT _ (by decide)]; exact FRl.later hb (f43 (k.resolve_left (by decide))), fun k => by rw [upd_ne uT _ (by decide)]; exact (f44 (k.resolve_left (by decide))), fun k => by rw [upd_ne uT _ (by decide)]; exact FRl.later hb (f12 (k.resolve_left (by decide))), fun k => by rw [upd_ne uT _ (by decide)]; exact (f13 (k.resolve_left (by decide))), trivial⟩
      · intro uT L W hn hd hJ
        obtain ⟨hk, f35, f37, f40, f42, f33, f43, f44, f12, f13, _⟩ := hJ
        obtain ⟨so33, cp33, e33, hr33⟩ := f33 (hd 9 (by kernel_rfl))
        intro K hK
        simp only [puts, pz, e33]
        go_simp
        all_goals (try go_wp2_with fail)
        all_goals
          apply Shut.go4 (W := W) hK
          · simp only [puts, pz, e33]; rfl
          · first | with_reducible assumption | with_reducible exact Below.refl _ _ | exact Below.alloc (Below.refl _ _) (Nat.le_refl _) _
          · intro hb; exact ⟨bstep hk hb, fun k => by rw [upd_ne uT _ (by decide)]; exact (f35 (k.resolve_left (by decide))), fun k => by rw [upd_ne uT _ (by decide)]; exact FCo.later hb (f37 (k.resolve_left (by decide))), fun k => by rw [upd_ne uT _ (by decide)]; exact FTs.later hb (f40 (k.resolve_left (by decide))), fun k => by rw [upd_ne uT _ (by decide)]; exact FRs.later hb (f42 (k.resolve_left (by decide))), fun k => by rw [upd_ne uT _ (by decide)]; exact FRs.later hb (f33 (k.resolve_left (by decide))), fun _ => by rw [upd_same]; exact ⟨_, _, rfl, hr33⟩, fun k => by rw [upd_ne uT _ (by decide)]; exact (f44 (k.resolve_left (by decide))), fun k => by rw [upd_ne uT _ (by decide)]; exact FRl.later hb (f12 (k.resolve_left (by decide))), fun k => by rw [upd_ne uT _ (by decide)]; exact (f13 (k.resolve_left (by decide))), trivial⟩
      · intro uT L W hn hd hJ
        obtain ⟨hk, f35, f37, f40, f42, f33, f43, f44, f12, f13, _⟩ := hJ
        obtain ⟨so33, cp33, e33, hr33⟩ := f33 (hd 9 (by kernel_rfl))
        intro K hK
        simp only [puts, pz, e33]
        go_simp
        all_goals (try go_wp2_with fail)
        all_goals
          apply Shut.go4 (W := W) hK
          · simp only [puts, pz, e33]; rfl
          · first | with_reducible assumption | with_reducible exact Below.refl _ _ | exact Below.alloc (Below.refl _ _) (Nat.le_refl _) _
          · intro hb; exact ⟨bstep hk hb, fun k => by rw [upd_ne uT _ (by decide)]; exact (f35 (k.resolve_left (by decide))), fun k => by rw [upd_ne uT _ (by decide)]; exact FCo.later hb (f37 (k.resolve_left (by decide))), fun k => by rw [upd_ne uT _ (by decide)]; exact FTs.later hb (f40 (k.resolve_left (by decide))), fun k => by rw [upd_ne uT _ (by decide)]; exact FRs.later hb (f42 (k.resolve_left (by decide))), fun k => by rw [upd_ne uT _ (by decide)]; exact FRs.later hb (f33 (k.resolve_left (by decide))), fun k => by rw [upd_ne uT _ (by decide)]; exact FRl.later hb (f43 (k.resolve_left (by decide))), fun _ => upd_same _ _ _, fun k => by rw [upd_ne uT _ (by decide)]; exact FRl.later hb (f12 (k.resolve_left (by decide))), fun k => by rw [upd_ne uT _ (by decide)]; exact (f13 (k.resolve_left (by decide))), trivial⟩
      · intro uT L W hn hd hJ
        obtain ⟨hk, f35, f37, f40, f42, f33, f43, f44, f12, f13, _⟩ := hJ
        obtain ⟨so43, cp43, e43, hr43⟩ := f43 (hd 10 (by kernel_rfl))
        intro K hK
        simp only [puts, pz, e43]
        go_simp
        all_goals (try go_wp2_with fail)
        all_goals
          apply Shut.go4 (W := W) hK
          · simp only [puts, pz, e43]; rfl
          · first | with_reducible assumption | with_reducible exact Below.refl _ _ | exact Below.alloc (Below.refl _ _) (Nat.le_refl _) _
          · intro hb; exact ⟨bstep hk hb, fun k => by rw [upd_ne uT _ (by decide)]; exact (f35 (k.resolve_left (by decide))), fun k => by rw [upd_ne uT _ (by decide)]; exact FCo.later hb (f37 (k.resolve_left (by decide))), fun k => by rw [upd_ne uT _ (by decide)]; exact FTs.later hb (f40 (k.resolve_left (by decide))), fun k => by rw [upd_ne uT _ (by decide)]; exact FRs.later hb (f42 (k.resolve_left (by decide))), fun k => by rw [upd_ne uT _ (by decide)]; exact FRs.later hb (f33 (k.resolve_left (by decide))), fun k => by rw [upd_ne uT _ (by decide)]; exact FRl.later hb (f43 (k.resolve_left (by decide))), fun k => by rw [upd_ne uT _ (by decide)]; exact (f44 (k.resolve_left (by decide))), fun _ => by rw [upd_same]; exact ⟨_, _, rfl, hr43⟩, fun k => by rw [upd_ne uT _ (by decide)]; exact (f13 (k.resolve_left (by decide))), trivial⟩
      · intro uT L W hn hd hJ
        obtain ⟨hk, f35, f37, f40, f42, f33, f43, f44, f12, f13, _⟩ := hJ
        obtain e44 := f44 (hd 11 (by kernel_rfl))
        intro K hK
        simp only [puts, pz, e44]
        go_simp
        all_goals (try go_wp2_with fail)
        all_goals
          apply Shut.go4 (W := W) hK
          · simp only [puts, pz, e44]; rfl
          · first | with_reducible assumption | with_reducible exact Below.refl _ _ | exact Below.alloc (Below.refl _ _) (Nat.le_refl _) _
          · intro hb; exact ⟨bstep hk hb, fun k => by rw [upd_ne uT _ (by decide)]; exact (f35 (k.resolve_left (by decide))), fun k => by rw [upd_ne uT _ (by decide)]; exact FCo.later hb (f37 (k.resolve_left (by decide))), fun k => by rw [upd_ne uT _ (by decide)]; exact FTs.later hb (f40 (k.resolve_left (by decide))), fun k => by rw [upd_ne uT _ (by decide)]; exact FRs.later hb (f42 (k.resolve_left (by decide))), fun k => by rw [upd_ne uT _ (by decide)]; exact FRs.later hb (f33 (k.resolve_left (by decide))), fun k => by rw [upd_ne uT _ (by decide)]; exact FRl.later hb (f43 (k.resolve_left (by decide))), fun k => by rw [upd_ne uT _ (by decide)]; exact (f44 (k.resolve_left (by decide))), fun k => by rw [upd_ne uT _ (by decide)]; exact FRl.later hb (f12 (k.resolve_left (by decide))), fun _ => upd_same _ _ _, trivial⟩
    · exact PuresH.nil
    · intro uT L W hJ hL
      obtain ⟨hk, f35, f37, f40, f42, f33, f43, f44, f12, f13, _⟩ := hJ
      obtain e35 := f35 (hL 1 (by kernel_rfl))
      obtain ⟨gc37, e37, hr37⟩ := f37 (hL 3 (by kernel_rfl))
      obtain ⟨gt40, G40, e40, hr40⟩ := f40 (hL 6 (by kernel_rfl))
      obtain ⟨so42, cp42, e42, hr42⟩ := f42 (hL 8 (by kernel_rfl))
      obtain ⟨so33, cp33, e33, hr33⟩ := f33 (hL 9 (by kernel_rfl))
      obtain ⟨so43, cp43, e43, hr43⟩ := f43 (hL 10 (by kernel_rfl))
      obtain e44 := f44 (hL 11 (by kernel_rfl))
      obtain ⟨so12, cp12, e12, hr12⟩ := f12 (hL 12 (by kernel_rfl))
      obtain e13 := f13 (hL 13 (by kernel_rfl))
      clear hHeld; have hcW := (bcell hk).1; have hfW := (bcell hk).2; have lW := Below.size hk; have hHeld := hk
      clear f35
      clear f37
      clear f40
      clear f42
      clear f33
      clear f43
      clear f44
      clear f12
      clear f13
      simp only [puts, pz, setAll, Array.replicate, e35, e37, e40, e42, e33, e43, e44, e12, e13]
      refine wpAnyH_done (by kernel_rfl) ?_ _; (try simp only [pz])
      go_wp2_with fail
      go_meet
      exact ⟨so12, cp12, rfl, rfl, hr12, hHeld⟩
  case rest =>
  obtain ⟨so0, cp0, rfl, rfl, h0, rB⟩ := hcut
  obtain ⟨wB, rfl⟩ : ∃ W : World, W = wc := ⟨_, rfl⟩
  have H0 := hide h0
  have b0 := hide (CoAt.later rB a0.out)
  have HB := hide (bstep HA.out rB)
  have sB := rB.size
  have bw0 := cell_later rB aw0
  have bw1 := cell_later rB aw1
  have sB0 : w.heap.size < wB.heap.size := by omega
  have sB1 : w.heap.size + 1 < wB.heap.size := by omega
  clear a0 rB HA h0 zA0 aw0 aw1 zA1
  go_upto_region 9 with fail
  go_cut [14] (fun s14 W => ∃ gx g1 : Nat, s14 = .pointer (some ⟨gx, 0, none⟩) ∧ CoAt W gx ax ay bx bY cx cy dx dy (some ⟨g1, 0, none⟩) n n ∧ RowAt W (some ⟨g1, 0, none⟩) n 5 (v5 N X Y S Z) ∧ Mine W g1 (n * 5) ∧ wB.heap.size ≤ g1 ∧ g1 < gx ∧ gx < W.heap.size ∧ Below wB.heap.size wB W)
  case first =>
    obtain ⟨o0, o1, o2, o3, o4, o5, o6, o7, o8⟩ := b0.out
    go_wp2_with (go_at_call 12; (with_reducible refine (HC.out _ (bstep HB.out (by with_reducible repeat (first | exact Below.refl _ _ | assumption | refine Below.drew ?_ | refine below_drewN ?_ _ | refine bS ?_ | refine bA ?_ | refine bstep ?_ (by assumption))))).mono ?_); rintro e w9 ⟨gt2, rfl, hrow, hmine, hge, hgl, hb⟩; have Hrow := hide hrow; have Hmine := hide hmine; clear hrow hmine)
    go_meet
    exact ⟨w9.heap.size, gt2, rfl, ⟨by go_simp, by go_simp, by go_simp, by go_simp, by go_simp, by go_simp, by go_simp, by go_simp, by go_simp⟩, Hrow.out.later (Below.alloc (Below.refl _ _) (Nat.le_refl _) _), Hmine.out.later (Below.alloc (Below.refl _ _) (Nat.le_refl _) _), hge, hgl, by simp, (by with_reducible repeat (first | exact Below.refl _ _ | assumption | refine Below.drew ?_ | refine below_drewN ?_ _ | refine bS ?_ | refine bA ?_ | refine bstep ?_ (by assumption)))⟩
  case rest =>
  obtain ⟨gx, g1, rfl, c3', hrow1, hm1, q1, q2, q7, hBC⟩ := hcut
  obtain ⟨wC, rfl⟩ : ∃ W : World, W = wc := ⟨_, rfl⟩
  have C3 := hide c3'
  have Hrow1 := hide hrow1
  have Hm1 := hide hm1
  have d0 := hide (CoAt.later hBC b0.out)
  have HC2 := hide (bstep HB.out hBC)
  have HBC := hide hBC
  have H0C := hide (RdT.later H0.out hBC)
  have sC := hBC.size
  have dw0 := cell_later hBC bw0
  have dw1 := cell_later hBC bw1
  have sC0 : w.heap.size < wC.heap.size := by omega
  have sC1 : w.heap.size + 1 < wC.heap.size := by omega
  clear b0 c3' hrow1 hm1 hBC HB bw0 bw1
  go_wp2_with fail; (with_reducible refine (HT.out _ HC2.out).mono ?_); rintro e wX ⟨gt, G, rfl, ht, htm, hCC⟩
  have x0 := hide (CoAt.later hCC d0.out)
  have x4 := hide (CoAt.later hCC C3.out)
  have HX := hide (bstep HC2.out hCC)
  have HBX := hide (HBC.out.trans (hCC.mono HBC.out.size))
  have H0X := hide (RdT.later H0C.out hCC)
  have Hrow1X := hide (RowAt.later hCC Hrow1.out)
  have Hm1X := hide (Mine.later hCC Hm1.out)
  have HtX := hide ht
  have HmX := hide htm
  have HGx := hide (fun i (hi : i < m) => (htm.1 i hi).2.2.2)
  have sgt := htm.2.2
  have xw0 := cell_later hCC dw0
  have xw1 := cell_later hCC dw1
  have sX := hCC.size
  have sX0 : w.heap.size < wX.heap.size := by omega
  have sX1 : w.heap.size + 1 < wX.heap.size := by omega
  have sXg : gx < wX.heap.size := by omega
  clear d0 C3 hCC HC2 HBC H0C Hrow1 Hm1 ht htm dw0 dw1 sC0 sC1
  go_upto_region 11 with fail
  go_cut [16, 17] (fun s1 s2 W => ∃ (so1 : Option Addr) (cp1 : Nat), s1 = .slice so1 m9 cp1 ∧ s2 = .int .i64 cd ∧ OwT W wX.heap.size so1 m9 R9 ∧ Below wX.heap.size wX W)
  case first =>
    obtain ⟨o0, o1, o2, o3, o4, o5, o6, o7, o8⟩ := x4.out
    refine wp_region_held_drew (S := fun W => Below wX.heap.size wX W) (by kernel_rfl) (Below.drew (Below.refl _ _)) (fun hHeld => ?_)
    refine wpAnyH_take (i := 0) (oi := ⟨some 50, _, _, _, _, _⟩) (v := ?_) rfl (by kernel_rfl) (by kernel_rfl) (by kernel_rfl) (fun _ _ _ h => h) (Or.inl ⟨by kernel_rfl, ?_⟩) (by assumption) ?_; rotate_left; focus (intro W0 hSw; have hcS := (bcell hSw).1; go_simp; (try with_reducible rfl)); (try simp only [pz])
    refine wpAnyH_take (i := 2) (oi := ⟨some 52, _, _, _, _, _⟩) (v := ?_) rfl (by kernel_rfl) (by kernel_rfl) (by kernel_rfl) (fun _ _ _ h => h) (Or.inl ⟨by kernel_rfl, ?_⟩) (by assumption) ?_; rotate_left; focus (intro W0 hSw; have hcS := (bcell hSw).1; go_simp; (try with_reducible rfl)); (try simp only [pz])
    refine wpAnyH_take (i := 3) (oi := ⟨some 53, _, _, _, _, _⟩) (v := ?_) rfl (by kernel_rfl) (by kernel_rfl) (by kernel_rfl) (fun _ _ _ h => h) (Or.inl ⟨by kernel_rfl, ?_⟩) (by assumption) ?_; rotate_left; focus (intro W0 hSw; go_simp; (try with_reducible rfl)); (try simp only [pz])
    refine wpAnyH_take (i := 4) (oi := ⟨some 54, _, _, _, _, _⟩) (v := ?_) rfl (by kernel_rfl) (by kernel_rfl) (by kernel_rfl) (fun _ _ _ h => h) (Or.inl ⟨by kernel_rfl, ?_⟩) (by assumption) ?_; rotate_left; focus (intro W0 hSw; go_simp; (try with_reducible rfl)); (try simp only [pz])
    refine wpAnyH_take (i := 5) (oi := ⟨some 55, _, _, _, _, _⟩) (v := ?_) rfl (by kernel_rfl) (by kernel_rfl) (by kernel_rfl) (fun _ _ _ h => h) (Or.inl ⟨by kernel_rfl, ?_⟩) (by assumption) ?_; rotate_left; focus (intro W0 hSw; go_simp; (try with_reducible rfl)); (try simp only [pz])
    refine wpAnyH_ready (rs := [1]) (by kernel_rfl) (by simp) ?_; refine (AllReadyH.cons (o := ⟨some 51, _, _, _, _, _⟩) rfl (fun K hK => ?_) AllReadyH.nil)
    go_simp; (first | (go_at_call 27; (with_reducible refine (laws_toWind _ _ _).mono ?_); rintro e w9 ⟨rfl, hb⟩) | (go_at_call 37; (with_reducible refine (HI.out _ _ _ _ _ _ _ (RowAt.later (show Below wX.heap.size wX _ from hHeld) Hrow1X.out) (Nat.le_refl _) (Trs.later (show Below wX.heap.size wX _ from hHeld) HtX.out)).mono ?_); rintro e w9 ⟨so1, cp1, rfl, hown, hb⟩; have H1 := hide (OwT.mono (hown) (show wX.heap.size ≤ _ from (show Below wX.heap.size wX _ from hHeld).size)); clear hown))
    all_goals (try go_wp2_with fail)
    refine hK.out _ _ ?_ (fun hH2 => ?_)
    · first | exact bstep hHeld hb | exact hHeld.trans hb | exact hHeld
    clear hK K hHeld; (have hHeld := hH2); clear hH2; (try simp only [pz])
    refine wpAnyH_ready (rs := [6]) (by kernel_rfl) (by simp) ?_; refine (AllReadyH.cons (o := ⟨some 56, _, _, _, _, _⟩) rfl (fun K hK => ?_) AllReadyH.nil)
    go_simp; (first | (go_at_call 27; (with_reducible refine (laws_toWind _ _ _).mono ?_); rintro e w9 ⟨rfl, hb⟩) | (go_at_call 37; (with_reducible refine (HI.out _ _ _ _ _ _ _ (RowAt.later (show Below wX.heap.size wX _ from hHeld) Hrow1X.out) (Nat.le_refl _) (Trs.later (show Below wX.heap.size wX _ from hHeld) HtX.out)).mono ?_); rintro e w9 ⟨so1, cp1, rfl, hown, hb⟩; have H1 := hide (OwT.mono (hown) (show wX.heap.size ≤ _ from (show Below wX.heap.size wX _ from hHeld).size)); clear hown))
    all_goals (try go_wp2_with fail)
    refine hK.out _ _ ?_ (fun hH2 => ?_)
    · first | exact bstep hHeld hb | exact hHeld.trans hb | exact hHeld
    clear hK K hHeld; (have hHeld := hH2); clear hH2; (try simp only [pz])
    refine wpAnyH_take (i := 7) (oi := ⟨some 49, _, _, _, _, _⟩) (v := ?_) rfl (by kernel_rfl) (by kernel_rfl) (by kernel_rfl) (fun _ _ _ h => h) (Or.inl ⟨by kernel_rfl, ?_⟩) (by assumption) ?_; rotate_left; focus (intro W0 hSw; go_simp; (try with_reducible rfl)); (try simp only [pz])
    refine wpAnyH_take (i := 8) (oi := ⟨some 57, _, _, _, _, _⟩) (v := ?_) rfl (by kernel_rfl) (by kernel_rfl) (by kernel_rfl) (fun _ _ _ h => h) (Or.inl ⟨by kernel_rfl, ?_⟩) (by assumption) ?_; rotate_left; focus (intro W0 hSw; go_simp; (try with_reducible rfl)); (try simp only [pz])
    refine wpAnyH_take (i := 9) (oi := ⟨some 58, _, _, _, _, _⟩) (v := ?_) rfl (by kernel_rfl) (by kernel_rfl) (by kernel_rfl) (fun _ _ _ h => h) (Or.inl ⟨by kernel_rfl, ?_⟩) (by assumption) ?_; rotate_left; focus (intro W0 hSw; go_simp; (try with_reducible rfl)); (try simp only [pz])
    refine wpAnyH_take (i := 10) (oi := ⟨some 16, _, _, _, _, _⟩) (v := ?_) rfl (by kernel_rfl) (by kernel_rfl) (by kernel_rfl) (fun _ _ _ h => h) (Or.inl ⟨by kernel_rfl, ?_⟩) (by assumption) ?_; rotate_left; focus (intro W0 hSw; go_simp; (try with_reducible rfl)); (try simp only [pz])
    refine wpAnyH_take (i := 11) (oi := ⟨some 17, _, _, _, _, _⟩) (v := ?_) rfl (by kernel_rfl) (by kernel_rfl) (by kernel_rfl) (fun _ _ _ h => h) (Or.inl ⟨by kernel_rfl, ?_⟩) (by assumption) ?_; rotate_left; focus (intro W0 hSw; go_simp; (try with_reducible rfl)); (try simp only [pz])
    refine wpAnyH_done (by kernel_rfl) ?_ _; (try simp only [pz])
    go_wp2_with fail
    go_meet
    exact ⟨so1, cp1, rfl, rfl, H1.out, hHeld⟩
  case rest =>
  obtain ⟨so1, cp1, rfl, rfl, h1, rD⟩ := hcut
  obtain ⟨wD, rfl⟩ : ∃ W : World, W = wc := ⟨_, rfl⟩
  have H1_0 := hide h1
  clear h1
  have e0_1 := hide (CoAt.later rD x0.out)
  have e4_1 := hide (CoAt.later rD x4.out)
  have H_1 := hide (bstep HX.out rD)
  have HB_1 := hide (HBX.out.trans (rD.mono HBX.out.size))
  have H0_1 := hide (RdT.later H0X.out rD)
  have Hr1_1 := hide (RowAt.later rD Hrow1X.out)
  have Ht_1 := hide (Trs.later rD HtX.out)
  have Hm1_1 := hide (Mine.later rD Hm1X.out)
  have Hm3_1 := hide (TrM.later rD HmX.out)
  have ew0_1 := cell_later rD xw0
  have ew1_1 := cell_later rD xw1
  have s_1 := rD.size
  have sw0_1 : w.heap.size < wD.heap.size := by omega
  have sw1_1 : w.heap.size + 1 < wD.heap.size := by omega
  have sgx_1 : gx < wD.heap.size := by omega
  have sg1_1 : g1 < wD.heap.size := by omega
  have sX_1 : wX.heap.size ≤ wD.heap.size := by omega
  clear x0 x4 HX HBX H0X Hrow1X HtX Hm1X HmX xw0 xw1
  clear rD
  go_wp2_with fail; (with_reducible refine (laws_eqInt64SS _ _ m9 _ _ R9 _ (OwT.read H1_0.out) (H0_1.out) (by omega) (fun j hj => Nat.le_trans (HR9.out j hj) (by decide))).mono ?_); rintro e wE ⟨rfl, hbE⟩
  have e0_2 := hide (CoAt.later hbE e0_1.out)
  have e4_2 := hide (CoAt.later hbE e4_1.out)
  have H_2 := hide (bstep H_1.out hbE)
  have HB_2 := hide (HB_1.out.trans (hbE.mono HB_1.out.size))
  have H0_2 := hide (RdT.later H0_1.out hbE)
  have Hr1_2 := hide (RowAt.later hbE Hr1_1.out)
  have Ht_2 := hide (Trs.later hbE Ht_1.out)
  have Hm1_2 := hide (Mine.later hbE Hm1_1.out)
  have Hm3_2 := hide (TrM.later hbE Hm3_1.out)
  have ew0_2 := cell_later hbE ew0_1
  have ew1_2 := cell_later hbE ew1_1
  have H1_2 := hide (OwT.later H1_0.out hbE)
  have s_2 := hbE.size
  have sw0_2 : w.heap.size < wE.heap.size := by omega
  have sw1_2 : w.heap.size + 1 < wE.heap.size := by omega
  have sgx_2 : gx < wE.heap.size := by omega
  have sg1_2 : g1 < wE.heap.size := by omega
  have sX_2 : wX.heap.size ≤ wE.heap.size := by omega
  clear e0_1 e4_1 H_1 HB_1 H0_1 Hr1_1 Ht_1 Hm1_1 Hm3_1 ew0_1 ew1_1 H1_0
  clear hbE
  go_upto_region 14 with fail
  obtain ⟨o0, o1, o2, o3, o4, o5, o6, o7, o8⟩ := e0_2.out
  obtain ⟨p0, p1, p2, p3, p4, p5, p6, p7, p8⟩ := e4_2.out
  refine wp_region_held_drew (S := fun W => Below wE.heap.size wE W) (by kernel_rfl) (Below.drew (Below.refl _ _)) (fun hHeld => ?_)
  refine wpAnyH_take (i := 0) (oi := ⟨some 68, _, _, _, _, _⟩) (v := ?_) rfl (by kernel_rfl) (by kernel_rfl) (by kernel_rfl) (fun _ _ _ h => h) (Or.inl ⟨by kernel_rfl, ?_⟩) (by assumption) ?_; rotate_left; focus (intro W0 hSw; have hcS := (bcell hSw).1; go_simp; (try with_reducible rfl)); (try simp only [pz])
  refine wpAnyH_take (i := 1) (oi := ⟨some 69, _, _, _, _, _⟩) (v := ?_) rfl (by kernel_rfl) (by kernel_rfl) (by kernel_rfl) (fun _ _ _ h => h) (Or.inl ⟨by kernel_rfl, ?_⟩) (by assumption) ?_; rotate_left; focus (intro W0 hSw; have hcS := (bcell hSw).1; go_simp; (try with_reducible rfl)); (try simp only [pz])
  refine wpAnyH_ready (rs := [2]) (by kernel_rfl) (by simp) ?_; refine (AllReadyH.cons (o := ⟨some 70, _, _, _, _, _⟩) rfl (fun K hK => ?_) AllReadyH.nil)
  go_simp; (first | (go_at_call 12; (with_reducible refine (HC.out _ (bstep H_2.out (by with_reducible repeat (first | exact Below.refl _ _ | assumption | refine Below.drew ?_ | refine below_drewN ?_ _ | refine bS ?_ | refine bA ?_ | refine bstep ?_ (by assumption))))).mono ?_); rintro e w9 ⟨gc, rfl, hrow, hmine, hge, hgl, hb⟩; have Hgc := hide hrow; clear hrow hmine hge hgl; obtain ⟨hc, hf⟩ := bcell hb; have hzq := hb.size; (try simp at hzq)) | (go_at_call 16; (with_reducible refine (laws_eqCourse ax ay bx bY cx cy dx dy _ _ n _ _ N X Y S Z _ (RowAt.later (show Below wE.heap.size wE _ from hHeld) Hr1_2.out) (RowAt.later (by first | with_reducible assumption | with_reducible exact Below.refl _ _ | exact (by with_reducible repeat (first | exact Below.refl _ _ | assumption | refine Below.drew ?_ | refine below_drewN ?_ _ | refine bS ?_ | refine bA ?_ | refine bstep ?_ (by assumption)))) Hgc.out) hn).mono ?_); rintro e w9 ⟨rfl, hb⟩; obtain ⟨hc, hf⟩ := bcell hb))
  all_goals (try go_wp2_with fail)
  refine hK.out _ _ ?_ (fun hH2 => ?_)
  · first | exact bstep hHeld hb | exact hHeld.trans hb | exact hHeld
  clear hK K hHeld; (have hHeld := hH2); clear hH2; (try simp only [pz])
  refine wpAnyH_ready (rs := [3]) (by kernel_rfl) (by simp) ?_; refine (AllReadyH.cons (o := ⟨some 71, _, _, _, _, _⟩) rfl (fun K hK => ?_) AllReadyH.nil)
  go_simp; (first | (go_at_call 12; (with_reducible refine (HC.out _ (bstep H_2.out (by with_reducible repeat (first | exact Below.refl _ _ | assumption | refine Below.drew ?_ | refine below_drewN ?_ _ | refine bS ?_ | refine bA ?_ | refine bstep ?_ (by assumption))))).mono ?_); rintro e w9 ⟨gc, rfl, hrow, hmine, hge, hgl, hb⟩; have Hgc := hide hrow; clear hrow hmine hge hgl; obtain ⟨hc, hf⟩ := bcell hb; have hzq := hb.size; (try simp at hzq)) | (go_at_call 16; (with_reducible refine (laws_eqCourse ax ay bx bY cx cy dx dy _ _ n _ _ N X Y S Z _ (RowAt.later (show Below wE.heap.size wE _ from hHeld) Hr1_2.out) (RowAt.later (by first | with_reducible assumption | with_reducible exact Below.refl _ _ | exact (by with_reducible repeat (first | exact Below.refl _ _ | assumption | refine Below.drew ?_ | refine below_drewN ?_ _ | refine bS ?_ | refine bA ?_ | refine bstep ?_ (by assumption)))) Hgc.out) hn).mono ?_); rintro e w9 ⟨rfl, hb⟩; obtain ⟨hc, hf⟩ := bcell hb))
  all_goals (try go_wp2_with fail)
  refine hK.out _ _ ?_ (fun hH2 => ?_)
  · first | exact bstep hHeld hb | exact hHeld.trans hb | exact hHeld
  clear hK K hHeld; (have hHeld := hH2); clear hH2; (try simp only [pz])
  refine wpAnyH_take (i := 4) (oi := ⟨some 72, _, _, _, _, _⟩) (v := ?_) rfl (by kernel_rfl) (by kernel_rfl) (by kernel_rfl) (fun _ _ _ h => h) (Or.inl ⟨by kernel_rfl, ?_⟩) (by assumption) ?_; rotate_left; focus (intro W0 hSw; go_simp; (try with_reducible rfl)); (try simp only [pz])
  refine wpAnyH_done (by kernel_rfl) ?_ _; (try simp only [pz])
  obtain ⟨wF, rfl⟩ : ∃ W : World, W = w9 := ⟨_, rfl⟩
  clear o0 o1 o2 o3 o4 o5 o6 o7 o8 p0 p1 p2 p3 p4 p5 p6 p7 p8 hc hf hb
  have e0_3 := hide (CoAt.later hHeld e0_2.out)
  have e4_3 := hide (CoAt.later hHeld e4_2.out)
  have H_3 := hide (bstep H_2.out hHeld)
  have HB_3 := hide (HB_2.out.trans (hHeld.mono HB_2.out.size))
  have H0_3 := hide (RdT.later H0_2.out hHeld)
  have Ht_3 := hide (Trs.later hHeld Ht_2.out)
  have Hm1_3 := hide (Mine.later hHeld Hm1_2.out)
  have Hm3_3 := hide (TrM.later hHeld Hm3_2.out)
  have ew0_3 := cell_later hHeld ew0_2
  have ew1_3 := cell_later hHeld ew1_2
  have H1_3 := hide (OwT.later H1_2.out hHeld)
  have s_3 := hHeld.size
  have sw0_3 : w.heap.size < wF.heap.size := by omega
  have sw1_3 : w.heap.size + 1 < wF.heap.size := by omega
  have sgx_3 : gx < wF.heap.size := by omega
  have sg1_3 : g1 < wF.heap.size := by omega
  have sX_3 : wX.heap.size ≤ wF.heap.size := by omega
  clear e0_2 e4_2 H_2 HB_2 H0_2 Hr1_2 Ht_2 Hm1_2 Hm3_2 ew0_2 ew1_2 H1_2
  clear hHeld
  go_wp2_with fail; (with_reducible refine (HT.out _ H_3.out).mono ?_); rintro e wG ⟨gt3, G3, rfl, ht3, htm3, hbG⟩
  have Ht3 := hide ht3
  clear ht3 htm3
  have e0_4 := hide (CoAt.later hbG e0_3.out)
  have e4_4 := hide (CoAt.later hbG e4_3.out)
  have H_4 := hide (bstep H_3.out hbG)
  have HB_4 := hide (HB_3.out.trans (hbG.mono HB_3.out.size))
  have H0_4 := hide (RdT.later H0_3.out hbG)
  have Ht_4 := hide (Trs.later hbG Ht_3.out)
  have Hm1_4 := hide (Mine.later hbG Hm1_3.out)
  have Hm3_4 := hide (TrM.later hbG Hm3_3.out)
  have ew0_4 := cell_later hbG ew0_3
  have ew1_4 := cell_later hbG ew1_3
  have H1_4 := hide (OwT.later H1_3.out hbG)
  have s_4 := hbG.size
  have sw0_4 : w.heap.size < wG.heap.size := by omega
  have sw1_4 : w.heap.size + 1 < wG.heap.size := by omega
  have sgx_4 : gx < wG.heap.size := by omega
  have sg1_4 : g1 < wG.heap.size := by omega
  have sX_4 : wX.heap.size ≤ wG.heap.size := by omega
  clear e0_3 e4_3 H_3 HB_3 H0_3 Ht_3 Hm1_3 Hm3_3 ew0_3 ew1_3 H1_3
  clear hbG
  go_wp2_with fail; (with_reducible refine (HQ.out _ _ _ _ _ _ _ _ _ Ht_4.out Ht3.out).mono ?_); rintro e wP ⟨rfl, hbP⟩
  have e0_5 := hide (CoAt.later hbP e0_4.out)
  have e4_5 := hide (CoAt.later hbP e4_4.out)
  have H_5 := hide (bstep H_4.out hbP)
  have HB_5 := hide (HB_4.out.trans (hbP.mono HB_4.out.size))
  have H0_5 := hide (RdT.later H0_4.out hbP)
  have Hm1_5 := hide (Mine.later hbP Hm1_4.out)
  have Hm3_5 := hide (TrM.later hbP Hm3_4.out)
  have ew0_5 := cell_later hbP ew0_4
  have ew1_5 := cell_later hbP ew1_4
  have H1_5 := hide (OwT.later H1_4.out hbP)
  have s_5 := hbP.size
  have sw0_5 : w.heap.size < wP.heap.size := by omega
  have sw1_5 : w.heap.size + 1 < wP.heap.size := by omega
  have sgx_5 : gx < wP.heap.size := by omega
  have sg1_5 : g1 < wP.heap.size := by omega
  have sX_5 : wX.heap.size ≤ wP.heap.size := by omega
  clear e0_4 e4_4 H_4 HB_4 H0_4 Ht_4 Hm1_4 Hm3_4 ew0_4 ew1_4 H1_4
  clear hbP Ht3
  obtain ⟨p0, p1, p2, p3, p4, p5, p6, p7, p8⟩ := e4_5.out
  go_wp2_with fail; (with_reducible refine (laws_markCourse ax ay bx bY cx cy dx dy g1 n n _ Hm1_5.out (by omega) hn).mono ?_); rintro e wH ⟨rfl, hgr⟩
  clear p0 p1 p2 p3 p4 p5 p6 p7 p8
  have kH : Below wB.heap.size wP wH := Below.grown (Below.refl _ _) hgr (by omega) (by intro k hk; simp at hk; omega)
  have f0_wH := hide (CoAt.below kH (by omega) e0_5.out)
  have few0_wH := cell_below kH (by omega) ew0_5
  have few1_wH := cell_below kH (by omega) ew1_5
  have fH_wH := hide (H_5.out.trans (kH.mono (by omega)))
  have fB_wH := hide (HB_5.out.trans (kH.mono (by omega)))
  have f9_wH := hide (RdT.later H0.out fB_wH.out)
  have s_wH := kH.size
  have sw0_wH : w.heap.size < wH.heap.size := by omega
  have sw1_wH : w.heap.size + 1 < wH.heap.size := by omega
  have sX_wH : wX.heap.size ≤ wH.heap.size := by omega
  have fm_wH := hide (TrM.grown hgr (by omega) Hm3_5.out)
  have f1_wH := hide (OwT.grown H1_5.out hgr (by omega))
  clear e0_5 e4_5 H_5 HB_5 H0_5 Hm1_5 Hm3_5 ew0_5 ew1_5 H1_5 hgr kH
  go_wp2_with fail; (with_reducible refine (laws_markTrackS wC gt m m G nn (1 + 5 * (n : Int)) _ (fun W => Below wB.heap.size wH W ∧ OwT W wX.heap.size so1 m9 R9) (by omega) (by omega) fm_wH.out q3 Q4.out (fun i W W2 hi hsz hgr hI => ⟨Below.grown hI.1 hgr (by omega) (by intro k hk; have := (HGx.out i hi).1; simp at hk; omega), OwT.grown hI.2 hgr (by have := (HGx.out i hi).2; omega)⟩) ⟨Below.refl _ _, f1_wH.out⟩).mono ?_); rintro e wI ⟨⟨x9, hx9, rfl⟩, kI, h1I⟩
  have f0_wI := hide (CoAt.below kI (by omega) f0_wH.out)
  have few0_wI := cell_below kI (by omega) few0_wH
  have few1_wI := cell_below kI (by omega) few1_wH
  have fH_wI := hide (fH_wH.out.trans (kI.mono (by omega)))
  have fB_wI := hide (fB_wH.out.trans (kI.mono (by omega)))
  have f9_wI := hide (RdT.later H0.out fB_wI.out)
  have s_wI := kI.size
  have sw0_wI : w.heap.size < wI.heap.size := by omega
  have sw1_wI : w.heap.size + 1 < wI.heap.size := by omega
  have sX_wI : wX.heap.size ≤ wI.heap.size := by omega
  have f1_wI := hide h1I
  clear f0_wH fH_wH fB_wH f9_wH fm_wH few0_wH few1_wH f1_wH h1I kI
  have kneg : ¬ (x9 < 0) := by omega
  go_wp2_with fail; (with_reducible refine (laws_eqInt64SS _ _ m9 _ _ R9 _ (OwT.read f1_wI.out) (f9_wI.out) (by omega) (fun j hj => Nat.le_trans (HR9.out j hj) (by decide))).mono ?_); rintro e wJ ⟨rfl, hbJ⟩
  have e0_6 := hide (CoAt.later hbJ f0_wI.out)
  have H_6 := hide (bstep fH_wI.out hbJ)
  have HB_6 := hide (fB_wI.out.trans (hbJ.mono fB_wI.out.size))
  have H1_6 := hide (OwT.later f1_wI.out hbJ)
  have ew0_6 := cell_later hbJ few0_wI
  have ew1_6 := cell_later hbJ few1_wI
  have s_6 := hbJ.size
  have sw0_6 : w.heap.size < wJ.heap.size := by omega
  have sw1_6 : w.heap.size + 1 < wJ.heap.size := by omega
  have sX_6 : wX.heap.size ≤ wJ.heap.size := by omega
  clear f0_wI fH_wI fB_wI f9_wI few0_wI few1_wI f1_wI
  clear hbJ kneg
  go_wp2_with fail; (with_reducible refine (laws_markInt64SS so1 wX.heap.size m9 cp1 R9 _ H1_6.out (by omega) HR9.out (by omega)).mono ?_); rintro e wK ⟨rfl, kK, hrowK⟩
  have HrowK := hide hrowK
  clear hrowK
  have t0_K := hide (CoAt.below kK (by omega) e0_6.out)
  have tew0_K := cell_below kK (by omega) ew0_6
  have tew1_K := cell_below kK (by omega) ew1_6
  have tH_K := hide (H_6.out.trans (kK.mono (by omega)))
  have tB_K := hide (HB_6.out.trans (kK.mono (by omega)))
  have sK := kK.size
  clear kK e0_6 H_6 HB_6 H1_6 ew0_6 ew1_6
  go_wp2_with fail; (with_reducible refine (laws_heldInt64SS so1 m9 cp1 R9 _ HrowK.out (by omega) HR9.out).mono ?_); rintro e wL ⟨rfl, hbL⟩
  have e0_7 := hide (CoAt.later hbL t0_K.out)
  have H_7 := hide (bstep tH_K.out hbL)
  have HB_7 := hide (tB_K.out.trans (hbL.mono tB_K.out.size))
  have HM_7 := hide (MkT.later HrowK.out hbL)
  have ew0_7 := cell_later hbL tew0_K
  have ew1_7 := cell_later hbL tew1_K
  have s_7 := hbL.size
  have sw0_7 : w.heap.size < wL.heap.size := by omega
  have sw1_7 : w.heap.size + 1 < wL.heap.size := by omega
  have sX_7 : wX.heap.size ≤ wL.heap.size := by omega
  clear t0_K tH_K tB_K HrowK tew0_K tew1_K
  clear hbL
  have H0L := hide (RdT.later H0.out HB_7.out)
  go_upto_region 31 with fail
  go_cut [21, 22] (fun s1 s2 W => ∃ (so0 : Option Addr) (cp0 : Nat), s1 = .slice so0 m9 cp0 ∧ s2 = .int .i64 cd ∧ RdT W so0 m9 R9 ∧ Below wL.heap.size wL W)
  case first =>
    obtain ⟨o0, o1, o2, o3, o4, o5, o6, o7, o8⟩ := e0_7.out
    refine wp_region_held_drew (S := fun W => Below wL.heap.size wL W) (by kernel_rfl) (Below.drew (by first | with_reducible exact Below.refl _ _ | with_reducible exact below_drewN (Below.refl _ _) _)) (fun hHeld => ?_)
    refine wpAnyH_take (i := 0) (oi := ⟨some 109, _, _, _, _, _⟩) (v := ?_) rfl (by kernel_rfl) (by kernel_rfl) (by kernel_rfl) (fun _ _ _ h => h) (Or.inl ⟨by kernel_rfl, ?_⟩) (by assumption) ?_; rotate_left; focus (intro W0 hSw; have hcS := (bcell hSw).1; go_simp; (try with_reducible rfl)); (try simp only [pz])
    refine wpAnyH_take (i := 2) (oi := ⟨some 111, _, _, _, _, _⟩) (v := ?_) rfl (by kernel_rfl) (by kernel_rfl) (by kernel_rfl) (fun _ _ _ h => h) (Or.inl ⟨by kernel_rfl, ?_⟩) (by assumption) ?_; rotate_left; focus (intro W0 hSw; have hcS := (bcell hSw).1; go_simp; (try with_reducible rfl)); (try simp only [pz])
    refine wpAnyH_take (i := 4) (oi := ⟨some 113, _, _, _, _, _⟩) (v := ?_) rfl (by kernel_rfl) (by kernel_rfl) (by kernel_rfl) (fun _ _ _ h => h) (Or.inl ⟨by kernel_rfl, ?_⟩) (by assumption) ?_; rotate_left; focus (intro W0 hSw; go_simp; (try with_reducible rfl)); (try simp only [pz])
    refine wpAnyH_take (i := 5) (oi := ⟨some 114, _, _, _, _, _⟩) (v := ?_) rfl (by kernel_rfl) (by kernel_rfl) (by kernel_rfl) (fun _ _ _ h => h) (Or.inl ⟨by kernel_rfl, ?_⟩) (by assumption) ?_; rotate_left; focus (intro W0 hSw; go_simp; (try with_reducible rfl)); (try simp only [pz])
    refine wpAnyH_take (i := 7) (oi := ⟨some 116, _, _, _, _, _⟩) (v := ?_) rfl (by kernel_rfl) (by kernel_rfl) (by kernel_rfl) (fun _ _ _ h => h) (Or.inl ⟨by kernel_rfl, ?_⟩) (by assumption) ?_; rotate_left; focus (intro W0 hSw; go_simp; (try with_reducible rfl)); (try simp only [pz])
    refine wpAnyH_inv2 (fuel := 0) [1, 3, 6, 8, 9, 10, 11, 12, 13] [] [110, 112, 115, 117, 108, 118, 119, 21, 22] (fun uT L W => Below wL.heap.size wL W ∧ (L 1 → (uT 110) = (.agg #[.int .i64 wx, .int .i64 wy])) ∧ (L 3 → FCo ax ay bx bY cx cy dx dy n N X Y S Z (uT 112) W) ∧ (L 6 → FTs m nn T U V (uT 115) W) ∧ (L 8 → FRs m9 R9 cd (uT 117) W) ∧ (L 9 → FRs m9 R9 cd (uT 108) W) ∧ (L 10 → FRl m9 R9 (uT 118) W) ∧ (L 11 → (uT 119) = (.int .i64 cd)) ∧ (L 12 → FRl m9 R9 (uT 21) W) ∧ (L 13 → (uT 22) = (.int .i64 cd)) ∧ True) (by decide) (by kernel_rfl) (by kernel_rfl) (by intro _ _ _ _ _ h; exact h) (fun uT L W hJ => hJ.1) (fun uT L hL => ⟨hHeld, fun k => absurd k (hL 1 (by decide)), fun k => absurd k (hL 3 (by decide)), fun k => absurd k (hL 6 (by decide)), fun k => absurd k (hL 8 (by decide)), fun k => absurd k (hL 9 (by decide)), fun k => absurd k (hL 10 (by decide)), fun k => absurd k (hL 11 (by decide)), fun k => absurd k (hL 12 (by decide)), fun k => absurd k (hL 13 (by decide)), trivial⟩) ?_ ?_ ?_
    · refine StepsH.cons (d := 110) (o := ⟨some 110, _, _, _, _, _⟩) rfl rfl (by kernel_rfl) ?_ ?_
      rotate_left
      refine StepsH.cons (d := 112) (o := ⟨some 112, _, _, _, _, _⟩) rfl rfl (by kernel_rfl) ?_ ?_
      rotate_left
      refine StepsH.cons (d := 115) (o := ⟨some 115, _, _, _, _, _⟩) rfl rfl (by kernel_rfl) ?_ ?_
      rotate_left
      refine StepsH.cons (d := 117) (o := ⟨some 117, _, _, _, _, _⟩) rfl rfl (by kernel_rfl) ?_ ?_
      rotate_left
      refine StepsH.cons (d := 108) (o := ⟨some 108, _, _, _, _, _⟩) rfl rfl (by kernel_rfl) ?_ ?_
      rotate_left
      refine StepsH.cons (d := 118) (o := ⟨some 118, _, _, _, _, _⟩) rfl rfl (by kernel_rfl) ?_ ?_
      rotate_left
      refine StepsH.cons (d := 119) (o := ⟨some 119, _, _, _, _, _⟩) rfl rfl (by kernel_rfl) ?_ ?_
      rotate_left
      refine StepsH.cons (d := 21) (o := ⟨some 21, _, _, _, _, _⟩) rfl rfl (by kernel_rfl) ?_ ?_
      rotate_left
      refine StepsH.cons (d := 22) (o := ⟨some 22, _, _, _, _, _⟩) rfl rfl (by kernel_rfl) ?_ ?_
      rotate_left
      exact StepsH.nil
      · intro uT L W hn hd hJ
        obtain ⟨hk, f110, f112, f115, f117, f108, f118, f119, f21, f22, _⟩ := hJ
        intro K hK
        simp only [puts, pz]
        go_simp; (first | (go_at_call 27; (with_reducible refine (laws_toWind _ _ _).mono ?_); rintro e w9 ⟨rfl, hb⟩) | (go_at_call 12; (with_reducible refine (HC.out _ (bstep H_7.out hk)).mono ?_); rintro e w9 ⟨gc, rfl, hrow, hmine, hge, hgl, hb⟩; have Hgc := hide hrow; clear hrow hmine hge hgl) | (go_at_call 32; (with_reducible refine (HT.out _ (bstep H_7.out hk)).mono ?_); rintro e w9 ⟨gt, G, rfl, ht, htm, hb⟩; have Hgt := hide ht; clear ht htm) | (go_at_call 37; (with_reducible refine ((HI.out _ _ _ _ _ _ _ hr112 (Nat.le_refl _) hr115)).mono ?_); rintro e w9 ⟨so0, cp0, rfl, hown, hb⟩; have Hrs := hide (OwT.read (hown)); clear hown))
        all_goals (try go_wp2_with fail)
        all_goals
          apply Shut.go4 (W := W) hK
          · simp only [puts, pz]; rfl
          · first | with_reducible assumption | with_reducible exact Below.refl _ _ | exact Below.alloc (Below.refl _ _) (Nat.le_refl _) _
          · intro hb; exact ⟨bstep hk hb, fun _ => upd_same _ _ _, fun k => by rw [upd_ne uT _ (by decide)]; exact FCo.later hb (f112 (k.resolve_left (by decide))), fun k => by rw [upd_ne uT _ (by decide)]; exact FTs.later hb (f115 (k.resolve_left (by decide))), fun k => by rw [upd_ne uT _ (by decide)]; exact FRs.later hb (f117 (k.resolve_left (by decide))), fun k => by rw [upd_ne uT _ (by decide)]; exact FRs.later hb (f108 (k.resolve_left (by decide))), fun k => by rw [upd_ne uT _ (by decide)]; exact FRl.later hb (f118 (k.resolve_left (by decide))), fun k => by rw [upd_ne uT _ (by decide)]; exact (f119 (k.resolve_left (by decide))), fun k => by rw [upd_ne uT _ (by decide)]; exact FRl.later hb (f21 (k.resolve_left (by decide))), fun k => by rw [upd_ne uT _ (by decide)]; exact (f22 (k.resolve_left (by decide))), trivial⟩
      · intro uT L W hn hd hJ
        obtain ⟨hk, f110, f112, f115, f117, f108, f118, f119, f21, f22, _⟩ := hJ
        intro K hK
        simp only [puts, pz]
        go_simp; (first | (go_at_call 27; (with_reducible refine (laws_toWind _ _ _).mono ?_); rintro e w9 ⟨rfl, hb⟩) | (go_at_call 12; (with_reducible refine (HC.out _ (bstep H_7.out hk)).mono ?_); rintro e w9 ⟨gc, rfl, hrow, hmine, hge, hgl, hb⟩; have Hgc := hide hrow; clear hrow hmine hge hgl) | (go_at_call 32; (with_reducible refine (HT.out _ (bstep H_7.out hk)).mono ?_); rintro e w9 ⟨gt, G, rfl, ht, htm, hb⟩; have Hgt := hide ht; clear ht htm) | (go_at_call 37; (with_reducible refine ((HI.out _ _ _ _ _ _ _ hr112 (Nat.le_refl _) hr115)).mono ?_); rintro e w9 ⟨so0, cp0, rfl, hown, hb⟩; have Hrs := hide (OwT.read (hown)); clear hown))
        all_goals (try go_wp2_with fail)
        all_goals
          apply Shut.go4 (W := W) hK
          · simp only [puts, pz]; rfl
          · first | with_reducible assumption | with_reducible exact Below.refl _ _ | exact Below.alloc (Below.refl _ _) (Nat.le_refl _) _
          · intro hb; exact ⟨bstep hk hb, fun k => by rw [upd_ne uT _ (by decide)]; exact (f110 (k.resolve_left (by decide))), fun _ => by rw [upd_same]; exact ⟨_, rfl, Hgc.out⟩, fun k => by rw [upd_ne uT _ (by decide)]; exact FTs.later hb (f115 (k.resolve_left (by decide))), fun k => by rw [upd_ne uT _ (by decide)]; exact FRs.later hb (f117 (k.resolve_left (by decide))), fun k => by rw [upd_ne uT _ (by decide)]; exact FRs.later hb (f108 (k.resolve_left (by decide))), fun k => by rw [upd_ne uT _ (by decide)]; exact FRl.later hb (f118 (k.resolve_left (by decide))), fun k => by rw [upd_ne uT _ (by decide)]; exact (f119 (k.resolve_left (by decide))), fun k => by rw [upd_ne uT _ (by decide)]; exact FRl.later hb (f21 (k.resolve_left (by decide))), fun k => by rw [upd_ne uT _ (by decide)]; exact (f22 (k.resolve_left (by decide))), trivial⟩
      · intro uT L W hn hd hJ
        obtain ⟨hk, f110, f112, f115, f117, f108, f118, f119, f21, f22, _⟩ := hJ
        intro K hK
        simp only [puts, pz]
        go_simp; (first | (go_at_call 27; (with_reducible refine (laws_toWind _ _ _).mono ?_); rintro e w9 ⟨rfl, hb⟩) | (go_at_call 12; (with_reducible refine (HC.out _ (bstep H_7.out hk)).mono ?_); rintro e w9 ⟨gc, rfl, hrow, hmine, hge, hgl, hb⟩; have Hgc := hide hrow; clear hrow hmine hge hgl) | (go_at_call 32; (with_reducible refine (HT.out _ (bstep H_7.out hk)).mono ?_); rintro e w9 ⟨gt, G, rfl, ht, htm, hb⟩; have Hgt := hide ht; clear ht htm) | (go_at_call 37; (with_reducible refine ((HI.out _ _ _ _ _ _ _ hr112 (Nat.le_refl _) hr115)).mono ?_); rintro e w9 ⟨so0, cp0, rfl, hown, hb⟩; have Hrs := hide (OwT.read (hown)); clear hown))
        all_goals (try go_wp2_with fail)
        all_goals
          apply Shut.go4 (W := W) hK
          · simp only [puts, pz]; rfl
          · first | with_reducible assumption | with_reducible exact Below.refl _ _ | exact Below.alloc (Below.refl _ _) (Nat.le_refl _) _
          · intro hb; exact ⟨bstep hk hb, fun k => by rw [upd_ne uT _ (by decide)]; exact (f110 (k.resolve_left (by decide))), fun k => by rw [upd_ne uT _ (by decide)]; exact FCo.later hb (f112 (k.resolve_left (by decide))), fun _ => by rw [upd_same]; exact ⟨_, _, rfl, Hgt.out⟩, fun k => by rw [upd_ne uT _ (by decide)]; exact FRs.later hb (f117 (k.resolve_left (by decide))), fun k => by rw [upd_ne uT _ (by decide)]; exact FRs.later hb (f108 (k.resolve_left (by decide))), fun k => by rw [upd_ne uT _ (by decide)]; exact FRl.later hb (f118 (k.resolve_left (by decide))), fun k => by rw [upd_ne uT _ (by decide)]; exact (f119 (k.resolve_left (by decide))), fun k => by rw [upd_ne uT _ (by decide)]; exact FRl.later hb (f21 (k.resolve_left (by decide))), fun k => by rw [upd_ne uT _ (by decide)]; exact (f22 (k.resolve_left (by decide))), trivial⟩
      · intro uT L W hn hd hJ
        obtain ⟨hk, f110, f112, f115, f117, f108, f118, f119, f21, f22, _⟩ := hJ
        obtain e110 := f110 (hd 1 (by kernel_rfl))
        obtain ⟨gc112, e112, hr112⟩ := f112 (hd 3 (by kernel_rfl))
        obtain ⟨gt115, G115, e115, hr115⟩ := f115 (hd 6 (by kernel_rfl))
        intro K hK
        simp only [puts, pz, e110, e112, e115]
        go_simp; (first | (go_at_call 27; (with_reducible refine (laws_toWind _ _ _).mono ?_); rintro e w9 ⟨rfl, hb⟩) | (go_at_call 12; (with_reducible refine (HC.out _ (bstep H_7.out hk)).mono ?_); rintro e w9 ⟨gc, rfl, hrow, hmine, hge, hgl, hb⟩; have Hgc := hide hrow; clear hrow hmine hge hgl) | (go_at_call 32; (with_reducible refine (HT.out _ (bstep H_7.out hk)).mono ?_); rintro e w9 ⟨gt, G, rfl, ht, htm, hb⟩; have Hgt := hide ht; clear ht htm) | (go_at_call 37; (with_reducible refine ((HI.out _ _ _ _ _ _ _ hr112 (Nat.le_refl _) hr115)).mono ?_); rintro e w9 ⟨so0, cp0, rfl, hown, hb⟩; have Hrs := hide (OwT.read (hown)); clear hown))
        all_goals (try go_wp2_with fail)
        all_goals
          apply Shut.go4 (W := W) hK
          · simp only [puts, pz, e110, e112, e115]; rfl
          · first | with_reducible assumption | with_reducible exact Below.refl _ _ | exact Below.alloc (Below.refl _ _) (Nat.le_refl _) _
          · intro hb; exact ⟨bstep hk hb, fun k => by rw [upd_ne uT _ (by decide)]; exact (f110 (k.resolve_left (by decide))), fun k => by rw [upd_ne uT _ (by decide)]; exact FCo.later hb (f112 (k.resolve_left (by decide))), fun k => by rw [upd_ne uT _ (by decide)]; exact FTs.later hb (f115 (k.resolve_left (by decide))), fun _ => by rw [upd_same]; exact ⟨_, _, rfl, Hrs.out⟩, fun k => by rw [upd_ne uT _ (by decide)]; exact FRs.later hb (f108 (k.resolve_left (by decide))), fun k => by rw [upd_ne uT _ (by decide)]; exact FRl.later hb (f118 (k.resolve_left (by decide))), fun k => by rw [upd_ne uT _ (by decide)]; exact (f119 (k.resolve_left (by decide))), fun k => by rw [upd_ne uT _ (by decide)]; exact FRl.later hb (f21 (k.resolve_left (by decide))), fun k => by rw [upd_ne uT _ (by decide)]; exact (f22 (k.resolve_left (by decide))), trivial⟩
      · intro uT L W hn hd hJ
        obtain ⟨hk, f110, f112, f115, f117, f108, f118, f119, f21, f22, _⟩ := hJ
        obtain ⟨so117, cp117, e117, hr117⟩ := f117 (hd 8 (by kernel_rfl))
        intro K hK
        simp only [puts, pz, e117]
        go_simp
        all_goals (try go_wp2_with fail)
        all_goals
          apply Shut.go4 (W := W) hK
          · simp only [puts, pz, e117]; rfl
          · first | with_reducible assumption | with_reducible exact Below.refl _ _ | exact Below.alloc (Below.refl _ _) (Nat.le_refl _) _
          · intro hb; exact ⟨bstep hk hb, fun k => by rw [upd_ne uT _ (by decide)]; exact (f110 (k.resolve_left (by decide))), fun k => by rw [upd_ne uT _ (by decide)]; exact FCo.later hb (f112 (k.resolve_left (by decide))), fun k => by rw [upd_ne uT _ (by decide)]; exact FTs.later hb (f115 (k.resolve_left (by decide))), fun k => by rw [upd_ne uT _ (by decide)]; exact FRs.later hb (f117 (k.resolve_left (by decide))), fun _ => by rw [upd_same]; exact ⟨_, _, rfl, hr117⟩, fun k => by rw [upd_ne uT _ (by decide)]; exact FRl.later hb (f118 (k.resolve_left (by decide))), fun k => by rw [upd_ne uT _ (by decide)]; exact (f119 (k.resolve_left (by decide))), fun k => by rw [upd_ne uT _ (by decide)]; exact FRl.later hb (f21 (k.resolve_left (by decide))), fun k => by rw [upd_ne uT _ (by decide)]; exact (f22 (k.resolve_left (by decide))), trivial⟩
      · intro uT L W hn hd hJ
        obtain ⟨hk, f110, f112, f115, f117, f108, f118, f119, f21, f22, _⟩ := hJ
        obtain ⟨so108, cp108, e108, hr108⟩ := f108 (hd 9 (by kernel_rfl))
        intro K hK
        simp only [puts, pz, e108]
        go_simp
        all_goals (try go_wp2_with fail)
        all_goals
          apply Shut.go4 (W := W) hK
          · simp only [puts, pz, e108]; rfl
          · first | with_reducible assumption | with_reducible exact Below.refl _ _ | exact Below.alloc (Below.refl _ _) (Nat.le_refl _) _
          · intro hb; exact ⟨bstep hk hb, fun k => by rw [upd_ne uT _ (by decide)]; exact (f110 (k.resolve_left (by decide))), fun k => by rw [upd_ne uT _ (by decide)]; exact FCo.later hb (f112 (k.resolve_left (by decide))), fun k => by rw [upd_ne uT _ (by decide)]; exact FTs.later hb (f115 (k.resolve_left (by decide))), fun k => by rw [upd_ne uT _ (by decide)]; exact FRs.later hb (f117 (k.resolve_left (by decide))), fun k => by rw [upd_ne uT _ (by decide)]; exact FRs.later hb (f108 (k.resolve_left (by decide))), fun _ => by rw [upd_same]; exact ⟨_, _, rfl, hr108⟩, fun k => by rw [upd_ne uT _ (by decide)]; exact (f119 (k.resolve_left (by decide))), fun k => by rw [upd_ne uT _ (by decide)]; exact FRl.later hb (f21 (k.resolve_left (by decide))), fun k => by rw [upd_ne uT _ (by decide)]; exact (f22 (k.resolve_left (by decide))), trivial⟩
      · intro uT L W hn hd hJ
        obtain ⟨hk, f110, f112, f115, f117, f108, f118, f119, f21, f22, _⟩ := hJ
        obtain ⟨so108, cp108, e108, hr108⟩ := f108 (hd 9 (by kernel_rfl))
        intro K hK
        simp only [puts, pz, e108]
        go_simp
        all_goals (try go_wp2_with fail)
        all_goals
          apply Shut.go4 (W := W) hK
          · simp only [puts, pz, e108]; rfl
          · first | with_reducible assumption | with_reducible exact Below.refl _ _ | exact Below.alloc (Below.refl _ _) (Nat.le_refl _) _
          · intro hb; exact ⟨bstep hk hb, fun k => by rw [upd_ne uT _ (by decide)]; exact (f110 (k.resolve_left (by decide))), fun k => by rw [upd_ne uT _ (by decide)]; exact FCo.later hb (f112 (k.resolve_left (by decide))), fun k => by rw [upd_ne uT _ (by decide)]; exact FTs.later hb (f115 (k.resolve_left (by decide))), fun k => by rw [upd_ne uT _ (by decide)]; exact FRs.later hb (f117 (k.resolve_left (by decide))), fun k => by rw [upd_ne uT _ (by decide)]; exact FRs.later hb (f108 (k.resolve_left (by decide))), fun k => by rw [upd_ne uT _ (by decide)]; exact FRl.later hb (f118 (k.resolve_left (by decide))), fun _ => upd_same _ _ _, fun k => by rw [upd_ne uT _ (by decide)]; exact FRl.later hb (f21 (k.resolve_left (by decide))), fun k => by rw [upd_ne uT _ (by decide)]; exact (f22 (k.resolve_left (by decide))), trivial⟩
      · intro uT L W hn hd hJ
        obtain ⟨hk, f110, f112, f115, f117, f108, f118, f119, f21, f22, _⟩ := hJ
        obtain ⟨so118, cp118, e118, hr118⟩ := f118 (hd 10 (by kernel_rfl))
        intro K hK
        simp only [puts, pz, e118]
        go_simp
        all_goals (try go_wp2_with fail)
        all_goals
          apply Shut.go4 (W := W) hK
          · simp only [puts, pz, e118]; rfl
          · first | with_reducible assumption | with_reducible exact Below.refl _ _ | exact Below.alloc (Below.refl _ _) (Nat.le_refl _) _
          · intro hb; exact ⟨bstep hk hb, fun k => by rw [upd_ne uT _ (by decide)]; exact (f110 (k.resolve_left (by decide))), fun k => by rw [upd_ne uT _ (by decide)]; exact FCo.later hb (f112 (k.resolve_left (by decide))), fun k => by rw [upd_ne uT _ (by decide)]; exact FTs.later hb (f115 (k.resolve_left (by decide))), fun k => by rw [upd_ne uT _ (by decide)]; exact FRs.later hb (f117 (k.resolve_left (by decide))), fun k => by rw [upd_ne uT _ (by decide)]; exact FRs.later hb (f108 (k.resolve_left (by decide))), fun k => by rw [upd_ne uT _ (by decide)]; exact FRl.later hb (f118 (k.resolve_left (by decide))), fun k => by rw [upd_ne uT _ (by decide)]; exact (f119 (k.resolve_left (by decide))), fun _ => by rw [upd_same]; exact ⟨_, _, rfl, hr118⟩, fun k => by rw [upd_ne uT _ (by decide)]; exact (f22 (k.resolve_left (by decide))), trivial⟩
      · intro uT L W hn hd hJ
        obtain ⟨hk, f110, f112, f115, f117, f108, f118, f119, f21, f22, _⟩ := hJ
        obtain e119 := f119 (hd 11 (by kernel_rfl))
        intro K hK
        simp only [puts, pz, e119]
        go_simp
        all_goals (try go_wp2_with fail)
        all_goals
          apply Shut.go4 (W := W) hK
          · simp only [puts, pz, e119]; rfl
          · first | with_reducible assumption | with_reducible exact Below.refl _ _ | exact Below.alloc (Below.refl _ _) (Nat.le_refl _) _
          · intro hb; exact ⟨bstep hk hb, fun k => by rw [upd_ne uT _ (by decide)]; exact (f110 (k.resolve_left (by decide))), fun k => by rw [upd_ne uT _ (by decide)]; exact FCo.later hb (f112 (k.resolve_left (by decide))), fun k => by rw [upd_ne uT _ (by decide)]; exact FTs.later hb (f115 (k.resolve_left (by decide))), fun k => by rw [upd_ne uT _ (by decide)]; exact FRs.later hb (f117 (k.resolve_left (by decide))), fun k => by rw [upd_ne uT _ (by decide)]; exact FRs.later hb (f108 (k.resolve_left (by decide))), fun k => by rw [upd_ne uT _ (by decide)]; exact FRl.later hb (f118 (k.resolve_left (by decide))), fun k => by rw [upd_ne uT _ (by decide)]; exact (f119 (k.resolve_left (by decide))), fun k => by rw [upd_ne uT _ (by decide)]; exact FRl.later hb (f21 (k.resolve_left (by decide))), fun _ => upd_same _ _ _, trivial⟩
    · exact PuresH.nil
    · intro uT L W hJ hL
      obtain ⟨hk, f110, f112, f115, f117, f108, f118, f119, f21, f22, _⟩ := hJ
      obtain e110 := f110 (hL 1 (by kernel_rfl))
      obtain ⟨gc112, e112, hr112⟩ := f112 (hL 3 (by kernel_rfl))
      obtain ⟨gt115, G115, e115, hr115⟩ := f115 (hL 6 (by kernel_rfl))
      obtain ⟨so117, cp117, e117, hr117⟩ := f117 (hL 8 (by kernel_rfl))
      obtain ⟨so108, cp108, e108, hr108⟩ := f108 (hL 9 (by kernel_rfl))
      obtain ⟨so118, cp118, e118, hr118⟩ := f118 (hL 10 (by kernel_rfl))
      obtain e119 := f119 (hL 11 (by kernel_rfl))
      obtain ⟨so21, cp21, e21, hr21⟩ := f21 (hL 12 (by kernel_rfl))
      obtain e22 := f22 (hL 13 (by kernel_rfl))
      clear hHeld; have hcW := (bcell hk).1; have hfW := (bcell hk).2; have lW := Below.size hk; have hHeld := hk
      clear f110
      clear f112
      clear f115
      clear f117
      clear f108
      clear f118
      clear f119
      clear f21
      clear f22
      simp only [puts, pz, setAll, Array.replicate, e110, e112, e115, e117, e108, e118, e119, e21, e22]
      refine wpAnyH_done (by kernel_rfl) ?_ _; (try simp only [pz])
      go_wp2_with fail
      go_meet
      exact ⟨so21, cp21, rfl, rfl, hr21, hHeld⟩
  case rest =>
  obtain ⟨so3, cp3, rfl, rfl, h3, rM⟩ := hcut
  obtain ⟨wM, rfl⟩ : ∃ W : World, W = wc := ⟨_, rfl⟩
  have H3 := hide h3
  have HM2 := hide (bstep H_7.out rM)
  have H0M := hide (RdT.later H0L.out rM)
  have HrowM := hide (MkT.later HM_7.out rM)
  clear rM h3 e0_7 H_7 HB_7 HM_7 ew0_7 ew1_7 H0L
  go_wp2_with fail; (with_reducible refine (laws_eqInt64SS _ _ m9 _ _ R9 _ (H3.out) (H0M.out) (by omega) (fun j hj => Nat.le_trans (HR9.out j hj) (by decide))).mono ?_); rintro e wN ⟨rfl, hbN⟩
  have HN2 := hide (bstep HM2.out hbN)
  have HrowN := hide (MkT.later HrowM.out hbN)
  clear hbN
  go_wp2_with fail; (with_reducible refine (laws_heldInt64SS so1 m9 cp1 R9 _ HrowN.out (by omega) HR9.out).mono ?_); rintro e wO ⟨rfl, hbO⟩
  have HO2 := hide (bstep HN2.out hbO)
  clear hbO
  go_wp2
  go_ret
  exact ⟨rfl, HO2.out⟩

set_option maxRecDepth 100000 in
theorem FnExactRoomTable_lifted (os : Os) (started : os.Started) (H : Type) (enc : TypeId × Value → H) :
    ReturnsInHanded {} Tryz.checked os 8 .any (fun w args => (Rows.fnExactRoomTableSpec.pre enc Tryz.prog Tryz.f8 [] false w args ∧ laidMetH Tryz.prog Rows.fnExactRoomTableRow.laid w) ∧ sizedMet enc Tryz.prog Tryz.f8 (OpenSpec.ofChange Rows.fnExactRoomTableSpec) false w args) (Rows.fnExactRoomTableSpec.post enc Tryz.prog Tryz.f8 false true false false) := by
  refine returnsInHanded_of_change_and (C := Tryz.checked) (X := fun w _ => laidMetH Tryz.prog Rows.fnExactRoomTableRow.laid w) (fun _ _ _ hh h => h.of_heap hh) Tryz.own started (by as_aux_lemma => kernel_rfl) Tryz.func8
    (ChangeSpec.witness_shaped (enc := enc) (C := Tryz.checked) (os := os) (X := fun w _ => laidMetH Tryz.prog Rows.fnExactRoomTableRow.laid w) false (World.laidAll Tryz.prog os Rows.fnExactRoomTableRow.laid) #[.agg #[.int .i64 0, .int .i64 0], .agg #[.int .i64 0, .int .i64 0, .int .i64 0, .int .i64 0, .int .i64 0, .int .i64 0, .int .i64 0, .int .i64 0, .slice none 0 0], .int .i64 0, .slice none 0 0, .int .i64 0] 8 (World.laidAll_os _ _ _) (World.shaped_of_ZipB (by as_aux_lemma => kernel_rfl) (by as_aux_lemma => kernel_rfl)) (by as_aux_lemma => kernel_rfl) (by as_aux_lemma => kernel_rfl) (by as_aux_lemma => kernel_rfl) (by rw [MakeChecks.laidMetH_plain _ _ _ (by as_aux_lemma => kernel_rfl)]; exact laidMet_laidAll _ (by as_aux_lemma => kernel_rfl) (by as_aux_lemma => kernel_rfl))) ?_
  intro W base args ds gs before hval0 hW _ _ hL _
  have hval : ∀ (j : Nat) t v, Tryz.f8.params[j]? = some t → args[j]? = some v → Value.okWide Tryz.prog W .any base t v := hval0
  have hW' := hW
  obtain ⟨p, q, hA0, hV, rfl, _, _⟩ := hW
  have hA : DataW.TrodAll enc Tryz.prog W 0 (fun _ => true) true Tryz.f8.params.toList args.toList ds p := hA0
  rw [Tryz.params8] at hA hval
  obtain ⟨v0, vs0, d0, ds0, p0, q0, hargs, rfl, rfl, h0, r0⟩ := trodAll_cons hA
  obtain ⟨v1, vs1, d1, ds1, p1, q1, rfl, rfl, rfl, h1, r1⟩ := trodAll_cons r0
  obtain ⟨v2, vs2, d2, ds2, p2, q2, rfl, rfl, rfl, h2, r2⟩ := trodAll_cons r1
  obtain ⟨v3, vs3, d3, ds3, p3, q3, rfl, rfl, rfl, h3, r3⟩ := trodAll_cons r2
  obtain ⟨v4, vs4, d4, ds4, p4, q4, rfl, rfl, rfl, h4, r4⟩ := trodAll_cons r3
  obtain ⟨rfl, rfl, rfl⟩ := trodAll_nil r4
  obtain rfl : args = #[v0, v1, v2, v3, v4] := by cases args; simp_all
  obtain ⟨x0, y0, rfl⟩ := op_wind (hval 0 58 v0 rfl rfl) h0
  obtain ⟨ax1, ay1, bx1, bY1, cx1, cy1, dx1, dy1, so1, n1, cp1, N1, X1, Y1, S1, Z1, rfl, hl1, hr1, hN1⟩ := op_course (hval 1 28 v1 rfl rfl) h1
  obtain ⟨a2, rfl, _, _, _⟩ := open_int Tryz.underlying2 (hval 2 2 v2 rfl rfl) h2
  obtain ⟨so3, n3, cp3, A3, M3, C3, T3, U3, V3, rfl, hl3, hr3, hM3⟩ := op_tracks (hval 3 67 v3 rfl rfl) h3
  obtain ⟨a4, rfl, _, _, _⟩ := open_int Tryz.underlying2 (hval 4 2 v4 rfl rfl) h4
  obtain ⟨rfl, rfl⟩ := trodVars_none hV
  refine (laws_FnExactRoomTable x0 y0 ax1 ay1 bx1 bY1 cx1 cy1 dx1 dy1 so1 n1 cp1 N1 X1 Y1 S1 Z1 a2 so3 n3 cp3 A3 M3 C3 T3 U3 V3 a4 W hl1 hr1 hN1 hl3 hr3 hM3).mono fun e W1 ⟨he, hb⟩ => ⟨_, he, ?_⟩
  exact law_post Tryz.laidOut (by as_aux_lemma => kernel_rfl) Tryz.underlying4 rfl rfl hW' rfl rfl rfl hb
set_option maxHeartbeats 8000000 in
theorem FnExactRoomTable_closed : joinedFacts Tryz.prog 8 Tryz.f8 Rows.fnExactRoomTableSpec Rows.fnExactRoomTableRow = true := by
  simp only [joinedFacts, Bool.and_eq_true, Tryz.laidOut, Tryz.mapsRowed, Tryz.stopsNone, Tryz.stopKnobsNone, Tryz.plainKeysIs, Tryz.stopsHeardIs, Tryz.mayEnterIs, Tryz.liftsFinalIs, Tryz.makeIs, and_true, true_and]
  repeat' (with_reducible refine And.intro ?_ ?_)
  all_goals (as_aux_lemma => kernel_rfl)
set_option maxHeartbeats 8000000 in
/-- FnExactRoomTable: whatever the input, the law returns true, and the input reads as it did. -/
theorem FnExactRoomTable_row : Rows.FnExactRoomTableSaid :=
  OpenClaim.holds_of_wide 8 Tryz.f8 rfl rfl rfl rfl rfl rfl rfl ⟨rfl, rfl, rfl, rfl, rfl⟩ rfl rfl rfl rfl rfl (by as_aux_lemma => kernel_rfl) Tryz.func8
    FnExactRoomTable_closed
    (of_decide_eq_true (by as_aux_lemma => kernel_rfl)) (by unfold Func.isWrapper; rw [if_neg (of_decide_eq_false (by as_aux_lemma => kernel_rfl))]; exact ⟨rfl, rfl⟩)
    (fun os started H enc _ => FnExactRoomTable_lifted os started H enc)

set_option maxHeartbeats 8000000 in
/-- FnExactRoomTable: the tied card. -/
theorem FnExactRoomTable_holds : Rows.FnExactRoomTableCardSaid :=
  Claim7.holds_tied_plain_at .later [] [.data, .pinned] true (true, "9a2dcc0a57a5abead947a61da1be33c7cfa3b5f2fdefc6b895eb063848c4a931") false
    FnExactRoomTable_row (fun _ h => by cases h) (by as_aux_lemma => kernel_rfl) (fun _ h => by cases h) fnExactRoomTable_row_tie rfl ⟨rfl, rfl⟩ (by as_aux_lemma => kernel_rfl) rfl
    (fun f fn hf hfn => by
      obtain rfl : f = 8 := Option.some.inj ((show Tryz.prog.funcNamed Rows.fnExactRoomTableRow.func = some 8 by kernel_rfl).symm.trans hf) |>.symm
      obtain rfl : fn = Tryz.f8 := (Option.some.inj (Tryz.func8.symm.trans hfn)).symm
      exact ⟨by kernel_rfl, fun j t ht => by
        rw [Tryz.params8] at ht
        have hm : t ∈ [58, 28, 2, 67, 2] := by simpa using Array.mem_of_getElem? ht
        have hall : ([58, 28, 2, 67, 2].all fun u => !Tryz.prog.wantsStandIn u) = true := by kernel_rfl
        exact (show Tryz.prog.wantsStandIn t = false by simpa using List.all_eq_true.1 hall t hm)⟩)
    (by as_aux_lemma => kernel_rfl)
#print axioms FnExactRoomTable_holds
end Go.Proofs.YtlhllidkkjledaaGreatDoor
