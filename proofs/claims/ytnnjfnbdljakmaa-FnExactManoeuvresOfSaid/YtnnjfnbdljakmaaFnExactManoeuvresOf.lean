/- ManoeuvresOf of the program returns what the reference's returns, in memory of its own, for every wind and track. No condition. -/
import Derived.Test.YtnnjfnbdljakmaaMo
import Derived.Test.YtnnjfnbdljakmaaBn
import Derived.Test.YtnnjfnbdljakmaaTa
import Derived.Test.YtnnjfnbdljakmaaLs
namespace Go.Proofs.Ytnnjfnbdljakmaa
open Go.ChangeShapes Go.WideShapes Go.ChangeAt Go.RowKit

set_option maxRecDepth 100000 in
set_option maxHeartbeats 8000000 in
theorem laws_FnExactManoeuvresOf (wx wy : Int) (so : Option Addr) (n cap : Nat) (T X Y : Nat → Int) (w : World) (hl : n ≤ maxLen) (h : RowAt w so n 3 (v3 T X Y)) :
    Calls Try.prog 10 #[.agg #[.int .i64 wx, .int .i64 wy], .agg #[.slice so n cap]] w fun e w' => e = .returned (.bool true) ∧ Below w.heap.size w w' := by
  unfold maxLen at hl
  by_cases hn : n ≤ 1048576
  · have HI := hide (fun W so cp (hr : RowAt W so n 3 (v3 T X Y)) => impl_ManoeuvresOf wx wy so n cp T X Y W hr hn)
    have HL := mnL_len wx wy n T X Y
    have Hh := hide h
    clear h
    have HS := hide (fun W so cp (hr : RowAt W so n 3 (v3 T X Y)) => spec_ManoeuvresOf wx wy so n cp T X Y W hr hn)
    generalize mnL wx wy n T X Y = L at *
    generalize mnC wx wy n T X Y = c at *
    go_enter Try.func10, Try.ntmps10
    go_upto_region 5 with (go_at_call 20; (with_reducible refine (laws_szTrack_yes _ _ _ _ _ (by omega) (by omega)).mono ?_); rintro e w9 ⟨rfl, hb⟩; obtain ⟨hc, hf⟩ := bcell hb; have hz := hb.size; have z0 : w.heap.size < w9.heap.size := (by first | omega | (simp at hz; omega)); have z1 : w.heap.size + 1 < w9.heap.size := (by first | omega | (simp at hz; omega)))
    obtain ⟨wA, rfl⟩ : ∃ W : World, W = w9 := ⟨_, rfl⟩
    have a0 : wA.cell? ⟨w.heap.size, 0, none⟩ = some (.int .i64 wx) := by go_simp
    have a1 : wA.cell? ⟨w.heap.size, 1, none⟩ = some (.int .i64 wy) := by go_simp
    have a2 : wA.cell? ⟨w.heap.size + 1, 0, none⟩ = some (.slice so n cap) := by go_simp
    have HA := hide (show Below w.heap.size w wA from (by repeat (first | with_reducible exact Below.refl _ _ | with_reducible assumption | with_reducible refine Below.drew ?_ | with_reducible refine below_drewN ?_ _ | with_reducible refine Below.setCell ?_ (by first | exact Nat.le_refl _ | (simp; done) | (simp; omega) | (dsimp only; omega)) _ | with_reducible refine Below.alloc ?_ (by first | exact Nat.le_refl _ | (simp; done) | (simp; omega) | (simp at *; omega)) _ | with_reducible refine bstep ?_ (by assumption))))
    have HhA := hide (RowAt.later HA.out Hh.out)
    clear hb hc hf hz
    refine wp_region_held_drew (S := fun W => Below wA.heap.size wA W) (by kernel_rfl) (Below.drew (Below.refl _ _)) (fun hHeld => ?_)
    refine wpAnyH_take (i := 0) (oi := ⟨some 22, _, _, _, _, _⟩) (v := ?_) rfl (by kernel_rfl) (by kernel_rfl) (by kernel_rfl) (fun _ _ _ h => h) (Or.inl ⟨by kernel_rfl, ?_⟩) (by assumption) ?_; rotate_left; focus (intro W0 hSw; have hcS := (bcell hSw).1; go_simp; (try with_reducible rfl)); (try simp only [Act.put, List.setIfInBounds_toArray, List.set_cons_zero, List.set_cons_succ])
    refine wpAnyH_take (i := 2) (oi := ⟨some 24, _, _, _, _, _⟩) (v := ?_) rfl (by kernel_rfl) (by kernel_rfl) (by kernel_rfl) (fun _ _ _ h => h) (Or.inl ⟨by kernel_rfl, ?_⟩) (by assumption) ?_; rotate_left; focus (intro W0 hSw; have hcS := (bcell hSw).1; go_simp; (try with_reducible rfl)); (try simp only [Act.put, List.setIfInBounds_toArray, List.set_cons_zero, List.set_cons_succ])
    refine wpAnyH_ready (rs := [1]) (by kernel_rfl) (by simp) ?_; refine (AllReadyH.cons (o := ⟨some 23, _, _, _, _, _⟩) rfl (fun K hK => ?_) AllReadyH.nil)
    go_simp; (first | (go_at_call 16; (with_reducible refine (laws_toWind _ _ _).mono ?_); rintro e w9 ⟨rfl, hb⟩; have hzz := hb.size; (try simp at hzz); obtain ⟨hc, hf⟩ := bcell hb) | (go_at_call 22; (with_reducible refine (laws_toTrack so n cap T X Y _ (RowAt.later (by repeat (first | with_reducible exact Below.refl _ _ | with_reducible assumption | with_reducible refine Below.drew ?_ | with_reducible refine below_drewN ?_ _ | with_reducible refine Below.setCell ?_ (by first | exact Nat.le_refl _ | (simp; done) | (simp; omega) | (dsimp only; omega)) _ | with_reducible refine Below.alloc ?_ (by first | exact Nat.le_refl _ | (simp; done) | (simp; omega) | (simp at *; omega)) _ | with_reducible refine bstep ?_ (by assumption))) HhA.out) hn).mono ?_); rintro e w9 ⟨gt, rfl, hrow, _, _, _, hb⟩; have Hrow := hide hrow; clear hrow) | (go_at_call 42; (with_reducible refine (HS.out _ _ _ Hrow.out).mono ?_); rintro e w9 ⟨so0, cp0, rfl, hown, hb⟩; have H0 := hide (OwnL.row hown); clear hown))
    all_goals (try go_wp2_with fail)
    refine hK.out _ _ ?_ (fun hH2 => ?_)
    · first | exact bstep hHeld hb | exact hHeld
    clear hK K hHeld; (have hHeld := hH2); clear hH2; (try simp only [Act.put, List.setIfInBounds_toArray, List.set_cons_zero, List.set_cons_succ])
    refine wpAnyH_ready (rs := [3]) (by kernel_rfl) (by simp) ?_; refine (AllReadyH.cons (o := ⟨some 25, _, _, _, _, _⟩) rfl (fun K hK => ?_) AllReadyH.nil)
    go_simp; (first | (go_at_call 16; (with_reducible refine (laws_toWind _ _ _).mono ?_); rintro e w9 ⟨rfl, hb⟩; have hzz := hb.size; (try simp at hzz); obtain ⟨hc, hf⟩ := bcell hb) | (go_at_call 22; (with_reducible refine (laws_toTrack so n cap T X Y _ (RowAt.later (by repeat (first | with_reducible exact Below.refl _ _ | with_reducible assumption | with_reducible refine Below.drew ?_ | with_reducible refine below_drewN ?_ _ | with_reducible refine Below.setCell ?_ (by first | exact Nat.le_refl _ | (simp; done) | (simp; omega) | (dsimp only; omega)) _ | with_reducible refine Below.alloc ?_ (by first | exact Nat.le_refl _ | (simp; done) | (simp; omega) | (simp at *; omega)) _ | with_reducible refine bstep ?_ (by assumption))) HhA.out) hn).mono ?_); rintro e w9 ⟨gt, rfl, hrow, _, _, _, hb⟩; have Hrow := hide hrow; clear hrow) | (go_at_call 42; (with_reducible refine (HS.out _ _ _ Hrow.out).mono ?_); rintro e w9 ⟨so0, cp0, rfl, hown, hb⟩; have H0 := hide (OwnL.row hown); clear hown))
    all_goals (try go_wp2_with fail)
    refine hK.out _ _ ?_ (fun hH2 => ?_)
    · first | exact bstep hHeld hb | exact hHeld
    clear hK K hHeld; (have hHeld := hH2); clear hH2; (try simp only [Act.put, List.setIfInBounds_toArray, List.set_cons_zero, List.set_cons_succ])
    refine wpAnyH_ready (rs := [4]) (by kernel_rfl) (by simp) ?_; refine (AllReadyH.cons (o := ⟨some 26, _, _, _, _, _⟩) rfl (fun K hK => ?_) AllReadyH.nil)
    go_simp; (first | (go_at_call 16; (with_reducible refine (laws_toWind _ _ _).mono ?_); rintro e w9 ⟨rfl, hb⟩; have hzz := hb.size; (try simp at hzz); obtain ⟨hc, hf⟩ := bcell hb) | (go_at_call 22; (with_reducible refine (laws_toTrack so n cap T X Y _ (RowAt.later (by repeat (first | with_reducible exact Below.refl _ _ | with_reducible assumption | with_reducible refine Below.drew ?_ | with_reducible refine below_drewN ?_ _ | with_reducible refine Below.setCell ?_ (by first | exact Nat.le_refl _ | (simp; done) | (simp; omega) | (dsimp only; omega)) _ | with_reducible refine Below.alloc ?_ (by first | exact Nat.le_refl _ | (simp; done) | (simp; omega) | (simp at *; omega)) _ | with_reducible refine bstep ?_ (by assumption))) HhA.out) hn).mono ?_); rintro e w9 ⟨gt, rfl, hrow, _, _, _, hb⟩; have Hrow := hide hrow; clear hrow) | (go_at_call 42; (with_reducible refine (HS.out _ _ _ Hrow.out).mono ?_); rintro e w9 ⟨so0, cp0, rfl, hown, hb⟩; have H0 := hide (OwnL.row hown); clear hown))
    all_goals (try go_wp2_with fail)
    refine hK.out _ _ ?_ (fun hH2 => ?_)
    · first | exact bstep hHeld hb | exact hHeld
    clear hK K hHeld; (have hHeld := hH2); clear hH2; (try simp only [Act.put, List.setIfInBounds_toArray, List.set_cons_zero, List.set_cons_succ])
    refine wpAnyH_take (i := 5) (oi := ⟨some 21, _, _, _, _, _⟩) (v := ?_) rfl (by kernel_rfl) (by kernel_rfl) (by kernel_rfl) (fun _ _ _ h => h) (Or.inl ⟨by kernel_rfl, ?_⟩) (by assumption) ?_; rotate_left; focus (intro W0 hSw; go_simp; (try with_reducible rfl)); (try simp only [Act.put, List.setIfInBounds_toArray, List.set_cons_zero, List.set_cons_succ])
    refine wpAnyH_take (i := 6) (oi := ⟨some 27, _, _, _, _, _⟩) (v := ?_) rfl (by kernel_rfl) (by kernel_rfl) (by kernel_rfl) (fun _ _ _ h => h) (Or.inl ⟨by kernel_rfl, ?_⟩) (by assumption) ?_; rotate_left; focus (intro W0 hSw; go_simp; (try with_reducible rfl)); (try simp only [Act.put, List.setIfInBounds_toArray, List.set_cons_zero, List.set_cons_succ])
    refine wpAnyH_take (i := 7) (oi := ⟨some 28, _, _, _, _, _⟩) (v := ?_) rfl (by kernel_rfl) (by kernel_rfl) (by kernel_rfl) (fun _ _ _ h => h) (Or.inl ⟨by kernel_rfl, ?_⟩) (by assumption) ?_; rotate_left; focus (intro W0 hSw; go_simp; (try with_reducible rfl)); (try simp only [Act.put, List.setIfInBounds_toArray, List.set_cons_zero, List.set_cons_succ])
    refine wpAnyH_take (i := 8) (oi := ⟨some 6, _, _, _, _, _⟩) (v := ?_) rfl (by kernel_rfl) (by kernel_rfl) (by kernel_rfl) (fun _ _ _ h => h) (Or.inl ⟨by kernel_rfl, ?_⟩) (by assumption) ?_; rotate_left; focus (intro W0 hSw; go_simp; (try with_reducible rfl)); (try simp only [Act.put, List.setIfInBounds_toArray, List.set_cons_zero, List.set_cons_succ])
    refine wpAnyH_take (i := 9) (oi := ⟨some 7, _, _, _, _, _⟩) (v := ?_) rfl (by kernel_rfl) (by kernel_rfl) (by kernel_rfl) (fun _ _ _ h => h) (Or.inl ⟨by kernel_rfl, ?_⟩) (by assumption) ?_; rotate_left; focus (intro W0 hSw; go_simp; (try with_reducible rfl)); (try simp only [Act.put, List.setIfInBounds_toArray, List.set_cons_zero, List.set_cons_succ])
    refine wpAnyH_done (by kernel_rfl) ?_ _; (try simp only [Act.put, List.setIfInBounds_toArray, List.set_cons_zero, List.set_cons_succ])
    obtain ⟨wB, rfl⟩ : ∃ W : World, W = w9 := ⟨_, rfl⟩
    have b0 := cell_later hHeld a0
    have b1 := cell_later hHeld a1
    have b2' := cell_later hHeld a2
    have HB := hide (bstep HA.out hHeld)
    have HhB := hide (RowAt.later HB.out Hh.out)
    have sB0 : w.heap.size < wB.heap.size := by have := hHeld.size; omega
    have sB1 : w.heap.size + 1 < wB.heap.size := by have := hHeld.size; omega
    clear a0 a1 a2 hb hHeld z0 z1
    go_upto_region 6 with fail
    go_cut [8] (fun s8 W => ∃ gx g1 : Nat, s8 = .pointer (some ⟨gx, 0, none⟩) ∧ W.cell? ⟨gx, 0, none⟩ = some (.slice (some ⟨g1, 0, none⟩) n n) ∧ RowAt W (some ⟨g1, 0, none⟩) n 3 (v3 T X Y) ∧ Mine W g1 (n * 3) ∧ wB.heap.size ≤ g1 ∧ g1 < W.heap.size ∧ wB.heap.size ≤ gx ∧ gx < W.heap.size ∧ gx ≠ g1 ∧ Below wB.heap.size wB W)
    case first =>
      go_wp2_with (go_at_call 22; (with_reducible refine (laws_toTrack so n cap T X Y _ (RowAt.later (by repeat (first | with_reducible exact Below.refl _ _ | with_reducible assumption | with_reducible refine Below.drew ?_ | with_reducible refine below_drewN ?_ _ | with_reducible refine Below.setCell ?_ (by first | exact Nat.le_refl _ | (simp; done) | (simp; omega) | (dsimp only; omega)) _ | with_reducible refine Below.alloc ?_ (by first | exact Nat.le_refl _ | (simp; done) | (simp; omega) | (simp at *; omega)) _ | with_reducible refine bstep ?_ (by assumption))) HhB.out) hn).mono ?_); rintro e w9 ⟨gt2, rfl, hrow, hmine, hge, hgl, hb⟩; have Hrow := hide hrow; have Hmine := hide hmine; clear hrow hmine)
      go_meet
      exact ⟨w9.heap.size, gt2, rfl, by go_simp, Hrow.out.later (Below.alloc (Below.refl _ _) (Nat.le_refl _) _), Hmine.out.later (Below.alloc (Below.refl _ _) (Nat.le_refl _) _), hge, by simp; omega, hb.size, by simp, by omega, (by repeat (first | with_reducible exact Below.refl _ _ | with_reducible assumption | with_reducible refine Below.drew ?_ | with_reducible refine below_drewN ?_ _ | with_reducible refine Below.setCell ?_ (by first | exact Nat.le_refl _ | (simp; done) | (simp; omega) | (dsimp only; omega)) _ | with_reducible refine Below.alloc ?_ (by first | exact Nat.le_refl _ | (simp; done) | (simp; omega) | (simp at *; omega)) _ | with_reducible refine bstep ?_ (by assumption)))⟩
    case rest =>
      obtain ⟨gx, g1, rfl, c3, hrow1, hmine1, q1, q2, q3, q4, q5, hBC⟩ := hcut
      have Hrow1 := hide hrow1
      have Hmine1 := hide hmine1
      have c0 := cell_later hBC b0
      have c1 := cell_later hBC b1
      have c2 := cell_later hBC b2'
      have HC := hide (bstep HB.out hBC)
      have H0C := hide (RowAt.later hBC H0.out)
      have sC0 : w.heap.size < wc.heap.size := by have := hBC.size; omega
      have sC1 : w.heap.size + 1 < wc.heap.size := by have := hBC.size; omega
      have HBC := hide hBC
      clear b0 b1 b2' hBC hrow1 hmine1
      go_upto_region 7 with fail
      refine wp_region_held_drew (S := fun W => Below wc.heap.size wc W) (by kernel_rfl) (Below.drew (Below.refl _ _)) (fun hHeld => ?_)
      refine wpAnyH_take (i := 0) (oi := ⟨some 32, _, _, _, _, _⟩) (v := ?_) rfl (by kernel_rfl) (by kernel_rfl) (by kernel_rfl) (fun _ _ _ h => h) (Or.inl ⟨by kernel_rfl, ?_⟩) (by assumption) ?_; rotate_left; focus (intro W0 hSw; have hcS := (bcell hSw).1; go_simp; (try with_reducible rfl)); (try simp only [Act.put, List.setIfInBounds_toArray, List.set_cons_zero, List.set_cons_succ])
      refine wpAnyH_take (i := 2) (oi := ⟨some 34, _, _, _, _, _⟩) (v := ?_) rfl (by kernel_rfl) (by kernel_rfl) (by kernel_rfl) (fun _ _ _ h => h) (Or.inl ⟨by kernel_rfl, ?_⟩) (by assumption) ?_; rotate_left; focus (intro W0 hSw; have hcS := (bcell hSw).1; go_simp; (try with_reducible rfl)); (try simp only [Act.put, List.setIfInBounds_toArray, List.set_cons_zero, List.set_cons_succ])
      refine wpAnyH_ready (rs := [1]) (by kernel_rfl) (by simp) ?_; refine (AllReadyH.cons (o := ⟨some 33, _, _, _, _, _⟩) rfl (fun K hK => ?_) AllReadyH.nil)
      go_simp; (first | (go_at_call 16; (with_reducible refine (laws_toWind _ _ _).mono ?_); rintro e w9 ⟨rfl, hb⟩; have hzz := hb.size; (try simp at hzz); obtain ⟨hc, hf⟩ := bcell hb) | (go_at_call 43; have Hz := hide (show Below wc.heap.size wc _ from hHeld); (with_reducible refine (HI.out _ _ _ (RowAt.later Hz.out Hrow1.out)).mono ?_); rintro e w9 ⟨so1, cp1, rfl, hown, hb⟩; have H1 := hide (OwnL.mono hown Hz.out.size); clear hown Hz))
      all_goals (try go_wp2_with fail)
      refine hK.out _ _ ?_ (fun hH2 => ?_)
      · first | exact bstep hHeld hb | exact hHeld
      clear hK K hHeld; (have hHeld := hH2); clear hH2; (try simp only [Act.put, List.setIfInBounds_toArray, List.set_cons_zero, List.set_cons_succ])
      refine wpAnyH_ready (rs := [3]) (by kernel_rfl) (by simp) ?_; refine (AllReadyH.cons (o := ⟨some 35, _, _, _, _, _⟩) rfl (fun K hK => ?_) AllReadyH.nil)
      go_simp; (first | (go_at_call 16; (with_reducible refine (laws_toWind _ _ _).mono ?_); rintro e w9 ⟨rfl, hb⟩; have hzz := hb.size; (try simp at hzz); obtain ⟨hc, hf⟩ := bcell hb) | (go_at_call 43; have Hz := hide (show Below wc.heap.size wc _ from hHeld); (with_reducible refine (HI.out _ _ _ (RowAt.later Hz.out Hrow1.out)).mono ?_); rintro e w9 ⟨so1, cp1, rfl, hown, hb⟩; have H1 := hide (OwnL.mono hown Hz.out.size); clear hown Hz))
      all_goals (try go_wp2_with fail)
      refine hK.out _ _ ?_ (fun hH2 => ?_)
      · first | exact bstep hHeld hb | exact hHeld
      clear hK K hHeld; (have hHeld := hH2); clear hH2; (try simp only [Act.put, List.setIfInBounds_toArray, List.set_cons_zero, List.set_cons_succ])
      refine wpAnyH_take (i := 4) (oi := ⟨some 31, _, _, _, _, _⟩) (v := ?_) rfl (by kernel_rfl) (by kernel_rfl) (by kernel_rfl) (fun _ _ _ h => h) (Or.inl ⟨by kernel_rfl, ?_⟩) (by assumption) ?_; rotate_left; focus (intro W0 hSw; go_simp; (try with_reducible rfl)); (try simp only [Act.put, List.setIfInBounds_toArray, List.set_cons_zero, List.set_cons_succ])
      refine wpAnyH_take (i := 5) (oi := ⟨some 36, _, _, _, _, _⟩) (v := ?_) rfl (by kernel_rfl) (by kernel_rfl) (by kernel_rfl) (fun _ _ _ h => h) (Or.inl ⟨by kernel_rfl, ?_⟩) (by assumption) ?_; rotate_left; focus (intro W0 hSw; go_simp; (try with_reducible rfl)); (try simp only [Act.put, List.setIfInBounds_toArray, List.set_cons_zero, List.set_cons_succ])
      refine wpAnyH_take (i := 6) (oi := ⟨some 37, _, _, _, _, _⟩) (v := ?_) rfl (by kernel_rfl) (by kernel_rfl) (by kernel_rfl) (fun _ _ _ h => h) (Or.inl ⟨by kernel_rfl, ?_⟩) (by assumption) ?_; rotate_left; focus (intro W0 hSw; go_simp; (try with_reducible rfl)); (try simp only [Act.put, List.setIfInBounds_toArray, List.set_cons_zero, List.set_cons_succ])
      refine wpAnyH_take (i := 7) (oi := ⟨some 9, _, _, _, _, _⟩) (v := ?_) rfl (by kernel_rfl) (by kernel_rfl) (by kernel_rfl) (fun _ _ _ h => h) (Or.inl ⟨by kernel_rfl, ?_⟩) (by assumption) ?_; rotate_left; focus (intro W0 hSw; go_simp; (try with_reducible rfl)); (try simp only [Act.put, List.setIfInBounds_toArray, List.set_cons_zero, List.set_cons_succ])
      refine wpAnyH_take (i := 8) (oi := ⟨some 10, _, _, _, _, _⟩) (v := ?_) rfl (by kernel_rfl) (by kernel_rfl) (by kernel_rfl) (fun _ _ _ h => h) (Or.inl ⟨by kernel_rfl, ?_⟩) (by assumption) ?_; rotate_left; focus (intro W0 hSw; go_simp; (try with_reducible rfl)); (try simp only [Act.put, List.setIfInBounds_toArray, List.set_cons_zero, List.set_cons_succ])
      refine wpAnyH_done (by kernel_rfl) ?_ _; (try simp only [Act.put, List.setIfInBounds_toArray, List.set_cons_zero, List.set_cons_succ])
      obtain ⟨wD, rfl⟩ : ∃ W : World, W = w9 := ⟨_, rfl⟩
      have d0 := cell_later hHeld c0
      have d1 := cell_later hHeld c1
      have d2 := cell_later hHeld c2
      have d3 := cell_later hHeld c3
      have HD := hide (bstep HC.out hHeld)
      have H0D := hide (RowAt.later hHeld H0C.out)
      have Hrow1D := hide (RowAt.later hHeld Hrow1.out)
      have Hmine1D := hide (Mine.later hHeld Hmine1.out)
      have HBD := hide (HBC.out.trans (hHeld.mono HBC.out.size))
      have sD0 : w.heap.size < wD.heap.size := by have := hHeld.size; omega
      have sD1 : w.heap.size + 1 < wD.heap.size := by have := hHeld.size; omega
      have sDx : gx < wD.heap.size := by have := hHeld.size; omega
      have sDc : wc.heap.size ≤ wD.heap.size := hHeld.size
      clear c0 c1 c2 c3 hb hHeld
      go_wp2_with fail; (with_reducible refine (laws_eqManoeuvreS _ _ _ _ _ _ _ _ (OwnL.row H1.out) H0D.out (by omega)).mono ?_); rintro e wE ⟨rfl, hbE⟩
      have e0 := cell_later hbE d0
      have e1 := cell_later hbE d1
      have e2 := cell_later hbE d2
      have e3 := cell_later hbE d3
      have HE := hide (bstep HD.out hbE)
      have H0E := hide (RowAt.later hbE H0D.out)
      have H1E := hide (OwnL.later hbE H1.out)
      have Hrow1E := hide (RowAt.later hbE Hrow1D.out)
      have Hmine1E := hide (Mine.later hbE Hmine1D.out)
      have HBE := hide (HBD.out.trans (hbE.mono HBD.out.size))
      have sE0 : w.heap.size < wE.heap.size := by have := hbE.size; omega
      have sE1 : w.heap.size + 1 < wE.heap.size := by have := hbE.size; omega
      have sEx : gx < wE.heap.size := by have := hbE.size; omega
      have sEc : wc.heap.size ≤ wE.heap.size := by have := hbE.size; omega
      have HhE := hide (RowAt.later HE.out Hh.out)
      clear d0 d1 d2 d3 hbE
      go_upto_region 10 with fail
      refine wp_region_held_drew (S := fun W => Below wE.heap.size wE W) (by kernel_rfl) (Below.drew (Below.refl _ _)) (fun hHeld => ?_)
      refine wpAnyH_take (i := 0) (oi := ⟨some 47, _, _, _, _, _⟩) (v := ?_) rfl (by kernel_rfl) (by kernel_rfl) (by kernel_rfl) (fun _ _ _ h => h) (Or.inl ⟨by kernel_rfl, ?_⟩) (by assumption) ?_; rotate_left; focus (intro W0 hSw; have hcS := (bcell hSw).1; go_simp; (try with_reducible rfl)); (try simp only [Act.put, List.setIfInBounds_toArray, List.set_cons_zero, List.set_cons_succ])
      refine wpAnyH_take (i := 1) (oi := ⟨some 48, _, _, _, _, _⟩) (v := ?_) rfl (by kernel_rfl) (by kernel_rfl) (by kernel_rfl) (fun _ _ _ h => h) (Or.inl ⟨by kernel_rfl, ?_⟩) (by assumption) ?_; rotate_left; focus (intro W0 hSw; have hcS := (bcell hSw).1; go_simp; (try with_reducible rfl)); (try simp only [Act.put, List.setIfInBounds_toArray, List.set_cons_zero, List.set_cons_succ])
      refine wpAnyH_ready (rs := [2]) (by kernel_rfl) (by simp) ?_; refine (AllReadyH.cons (o := ⟨some 49, _, _, _, _, _⟩) rfl (fun K hK => ?_) AllReadyH.nil)
      go_simp; (first | (go_at_call 22; (with_reducible refine (laws_toTrack so n cap T X Y _ (RowAt.later (by repeat (first | with_reducible exact Below.refl _ _ | with_reducible assumption | with_reducible refine Below.drew ?_ | with_reducible refine below_drewN ?_ _ | with_reducible refine Below.setCell ?_ (by first | exact Nat.le_refl _ | (simp; done) | (simp; omega) | (dsimp only; omega)) _ | with_reducible refine Below.alloc ?_ (by first | exact Nat.le_refl _ | (simp; done) | (simp; omega) | (simp at *; omega)) _ | with_reducible refine bstep ?_ (by assumption))) HhE.out) hn).mono ?_); rintro e w9 ⟨g2, rfl, hrow2, _, _, _, hb⟩; have Hrow2 := hide hrow2; clear hrow2) | (go_at_call 24; (with_reducible refine (laws_eqTrack _ _ _ _ _ T X Y _ (RowAt.later (show Below wE.heap.size wE _ from hHeld) Hrow1E.out) Hrow2.out hn).mono ?_); rintro e w9 ⟨rfl, hb⟩))
      all_goals (try go_wp2_with fail)
      refine hK.out _ _ ?_ (fun hH2 => ?_)
      · first | exact bstep hHeld hb | exact hHeld
      clear hK K hHeld; (have hHeld := hH2); clear hH2; (try simp only [Act.put, List.setIfInBounds_toArray, List.set_cons_zero, List.set_cons_succ])
      refine wpAnyH_ready (rs := [3]) (by kernel_rfl) (by simp) ?_; refine (AllReadyH.cons (o := ⟨some 50, _, _, _, _, _⟩) rfl (fun K hK => ?_) AllReadyH.nil)
      go_simp; (first | (go_at_call 22; (with_reducible refine (laws_toTrack so n cap T X Y _ (RowAt.later (by repeat (first | with_reducible exact Below.refl _ _ | with_reducible assumption | with_reducible refine Below.drew ?_ | with_reducible refine below_drewN ?_ _ | with_reducible refine Below.setCell ?_ (by first | exact Nat.le_refl _ | (simp; done) | (simp; omega) | (dsimp only; omega)) _ | with_reducible refine Below.alloc ?_ (by first | exact Nat.le_refl _ | (simp; done) | (simp; omega) | (simp at *; omega)) _ | with_reducible refine bstep ?_ (by assumption))) HhE.out) hn).mono ?_); rintro e w9 ⟨g2, rfl, hrow2, _, _, _, hb⟩; have Hrow2 := hide hrow2; clear hrow2) | (go_at_call 24; (with_reducible refine (laws_eqTrack _ _ _ _ _ T X Y _ (RowAt.later (show Below wE.heap.size wE _ from hHeld) Hrow1E.out) Hrow2.out hn).mono ?_); rintro e w9 ⟨rfl, hb⟩))
      all_goals (try go_wp2_with fail)
      refine hK.out _ _ ?_ (fun hH2 => ?_)
      · first | exact bstep hHeld hb | exact hHeld
      clear hK K hHeld; (have hHeld := hH2); clear hH2; (try simp only [Act.put, List.setIfInBounds_toArray, List.set_cons_zero, List.set_cons_succ])
      refine wpAnyH_take (i := 4) (oi := ⟨some 51, _, _, _, _, _⟩) (v := ?_) rfl (by kernel_rfl) (by kernel_rfl) (by kernel_rfl) (fun _ _ _ h => h) (Or.inl ⟨by kernel_rfl, ?_⟩) (by assumption) ?_; rotate_left; focus (intro W0 hSw; go_simp; (try with_reducible rfl)); (try simp only [Act.put, List.setIfInBounds_toArray, List.set_cons_zero, List.set_cons_succ])
      refine wpAnyH_done (by kernel_rfl) ?_ _; (try simp only [Act.put, List.setIfInBounds_toArray, List.set_cons_zero, List.set_cons_succ])
      obtain ⟨wF, rfl⟩ : ∃ W : World, W = w9 := ⟨_, rfl⟩
      have f0 := cell_later hHeld e0
      have f1 := cell_later hHeld e1
      have f2 := cell_later hHeld e2
      have f3 := cell_later hHeld e3
      have HF := hide (bstep HE.out hHeld)
      have H0F := hide (RowAt.later hHeld H0E.out)
      have H1F := hide (OwnL.later hHeld H1E.out)
      have Hmine1F := hide (Mine.later hHeld Hmine1E.out)
      have HBF := hide (HBE.out.trans (hHeld.mono HBE.out.size))
      have sFc : wc.heap.size ≤ wF.heap.size := by have := hHeld.size; omega
      have sFx : gx < wF.heap.size := by omega
      have sF0 : w.heap.size < wF.heap.size := by omega
      have sF1 : w.heap.size + 1 < wF.heap.size := by omega
      clear e0 e1 e2 e3 hb hHeld
      go_wp2_with fail; (with_reducible refine (laws_markTrack g1 n n _ Hmine1F.out hn).mono ?_); rintro e wG ⟨rfl, hgr⟩
      have kG : Below wB.heap.size wF wG := Below.grown (Below.refl _ _) hgr (by omega) (by intro k hk; simp at hk; omega)
      have g0' := cell_below kG sB0 f0
      have g1' := cell_below kG sB0 f1
      have g2' := cell_below kG sB1 f2
      have HG := hide (HF.out.trans (kG.mono (by omega)))
      have HBG := hide (HBF.out.trans kG)
      have H0G := hide (RowAt.later HBG.out H0.out)
      have H1G := hide (OwnL.grown H1F.out hgr q2)
      have sGc : wc.heap.size ≤ wG.heap.size := by have := kG.size; omega
      clear f0 f1 f2 f3 kG hgr
      go_wp2_with fail; (with_reducible refine (laws_eqManoeuvreS _ _ _ _ _ _ _ _ (OwnL.row H1G.out) H0G.out (by omega)).mono ?_); rintro e wH ⟨rfl, hbH⟩
      obtain ⟨gm, hm1, hm2, hm3⟩ := OwnL.mark (OwnL.later hbH H1G.out)
      have i0 := cell_later hbH g0'
      have i1 := cell_later hbH g1'
      have i2 := cell_later hbH g2'
      have HH := hide (bstep HG.out hbH)
      have HBH := hide (HBG.out.trans (hbH.mono HBG.out.size))
      have sHc : wc.heap.size ≤ wH.heap.size := by have := hbH.size; omega
      have Hm3 := hide hm3
      clear g0' g1' g2' hbH hm3
      go_wp2_with fail; (with_reducible refine (laws_markManoeuvreS so1 gm L.length cp1 _ hm1 Hm3.out (by omega)).mono ?_); rintro e wI ⟨rfl, hgr, hrowI⟩
      have kI : Below wc.heap.size wH wI := Below.grown (Below.refl _ _) hgr (by omega) (by intro k hk; simp at hk; omega)
      have j0 := cell_below kI sC0 i0
      have j1 := cell_below kI sC0 i1
      have j2 := cell_below kI sC1 i2
      have HI' := hide (HH.out.trans (kI.mono (by omega)))
      have HBI := hide (HBH.out.trans (kI.mono (by have := HBC.out.size; omega)))
      have HrowI := hide hrowI
      have sIc : wc.heap.size ≤ wI.heap.size := by have := kI.size; omega
      clear i0 i1 i2 kI hgr hrowI
      go_wp2_with fail; (with_reducible refine (laws_heldManoeuvreS so1 L.length cp1 _ HrowI.out (by omega)).mono ?_); rintro e wJ ⟨rfl, hbJ⟩
      have l0 := cell_later hbJ j0
      have l1 := cell_later hbJ j1
      have l2 := cell_later hbJ j2
      have HJ := hide (bstep HI'.out hbJ)
      have HBJ := hide (HBI.out.trans (hbJ.mono HBI.out.size))
      have HrowJ := hide (RowAt.later hbJ HrowI.out)
      have HhJ := hide (RowAt.later HJ.out Hh.out)
      have H0J := hide (RowAt.later HBJ.out H0.out)
      have sJ0 : w.heap.size < wJ.heap.size := by have := hbJ.size; omega
      have sJ1 : w.heap.size + 1 < wJ.heap.size := by have := hbJ.size; omega
      clear j0 j1 j2 hbJ
      go_upto_region 24 with fail
      refine wp_region_held_drew (S := fun W => Below wJ.heap.size wJ W) (by kernel_rfl) (Below.drew (Below.refl _ _)) (fun hHeld => ?_)
      refine wpAnyH_take (i := 0) (oi := ⟨some 80, _, _, _, _, _⟩) (v := ?_) rfl (by kernel_rfl) (by kernel_rfl) (by kernel_rfl) (fun _ _ _ h => h) (Or.inl ⟨by kernel_rfl, ?_⟩) (by assumption) ?_; rotate_left; focus (intro W0 hSw; have hcS := (bcell hSw).1; go_simp; (try with_reducible rfl)); (try simp only [Act.put, List.setIfInBounds_toArray, List.set_cons_zero, List.set_cons_succ])
      refine wpAnyH_take (i := 2) (oi := ⟨some 82, _, _, _, _, _⟩) (v := ?_) rfl (by kernel_rfl) (by kernel_rfl) (by kernel_rfl) (fun _ _ _ h => h) (Or.inl ⟨by kernel_rfl, ?_⟩) (by assumption) ?_; rotate_left; focus (intro W0 hSw; have hcS := (bcell hSw).1; go_simp; (try with_reducible rfl)); (try simp only [Act.put, List.setIfInBounds_toArray, List.set_cons_zero, List.set_cons_succ])
      refine wpAnyH_ready (rs := [1]) (by kernel_rfl) (by simp) ?_; refine (AllReadyH.cons (o := ⟨some 81, _, _, _, _, _⟩) rfl (fun K hK => ?_) AllReadyH.nil)
      go_simp; (first | (go_at_call 16; (with_reducible refine (laws_toWind _ _ _).mono ?_); rintro e w9 ⟨rfl, hb⟩; have hzz := hb.size; (try simp at hzz); obtain ⟨hc, hf⟩ := bcell hb) | (go_at_call 22; (with_reducible refine (laws_toTrack so n cap T X Y _ (RowAt.later (by repeat (first | with_reducible exact Below.refl _ _ | with_reducible assumption | with_reducible refine Below.drew ?_ | with_reducible refine below_drewN ?_ _ | with_reducible refine Below.setCell ?_ (by first | exact Nat.le_refl _ | (simp; done) | (simp; omega) | (dsimp only; omega)) _ | with_reducible refine Below.alloc ?_ (by first | exact Nat.le_refl _ | (simp; done) | (simp; omega) | (simp at *; omega)) _ | with_reducible refine bstep ?_ (by assumption))) HhJ.out) hn).mono ?_); rintro e w9 ⟨g3, rfl, hrow3, _, _, _, hb⟩; have Hrow3 := hide hrow3; clear hrow3) | (go_at_call 43; (with_reducible refine (HI.out _ _ _ Hrow3.out).mono ?_); rintro e w9 ⟨so3, cp3, rfl, hown, hb⟩; have H3 := hide (OwnL.row hown); clear hown))
      all_goals (try go_wp2_with fail)
      refine hK.out _ _ ?_ (fun hH2 => ?_)
      · first | exact bstep hHeld hb | exact hHeld
      clear hK K hHeld; (have hHeld := hH2); clear hH2; (try simp only [Act.put, List.setIfInBounds_toArray, List.set_cons_zero, List.set_cons_succ])
      refine wpAnyH_ready (rs := [3]) (by kernel_rfl) (by simp) ?_; refine (AllReadyH.cons (o := ⟨some 83, _, _, _, _, _⟩) rfl (fun K hK => ?_) AllReadyH.nil)
      go_simp; (first | (go_at_call 16; (with_reducible refine (laws_toWind _ _ _).mono ?_); rintro e w9 ⟨rfl, hb⟩; have hzz := hb.size; (try simp at hzz); obtain ⟨hc, hf⟩ := bcell hb) | (go_at_call 22; (with_reducible refine (laws_toTrack so n cap T X Y _ (RowAt.later (by repeat (first | with_reducible exact Below.refl _ _ | with_reducible assumption | with_reducible refine Below.drew ?_ | with_reducible refine below_drewN ?_ _ | with_reducible refine Below.setCell ?_ (by first | exact Nat.le_refl _ | (simp; done) | (simp; omega) | (dsimp only; omega)) _ | with_reducible refine Below.alloc ?_ (by first | exact Nat.le_refl _ | (simp; done) | (simp; omega) | (simp at *; omega)) _ | with_reducible refine bstep ?_ (by assumption))) HhJ.out) hn).mono ?_); rintro e w9 ⟨g3, rfl, hrow3, _, _, _, hb⟩; have Hrow3 := hide hrow3; clear hrow3) | (go_at_call 43; (with_reducible refine (HI.out _ _ _ Hrow3.out).mono ?_); rintro e w9 ⟨so3, cp3, rfl, hown, hb⟩; have H3 := hide (OwnL.row hown); clear hown))
      all_goals (try go_wp2_with fail)
      refine hK.out _ _ ?_ (fun hH2 => ?_)
      · first | exact bstep hHeld hb | exact hHeld
      clear hK K hHeld; (have hHeld := hH2); clear hH2; (try simp only [Act.put, List.setIfInBounds_toArray, List.set_cons_zero, List.set_cons_succ])
      refine wpAnyH_ready (rs := [4]) (by kernel_rfl) (by simp) ?_; refine (AllReadyH.cons (o := ⟨some 84, _, _, _, _, _⟩) rfl (fun K hK => ?_) AllReadyH.nil)
      go_simp; (first | (go_at_call 16; (with_reducible refine (laws_toWind _ _ _).mono ?_); rintro e w9 ⟨rfl, hb⟩; have hzz := hb.size; (try simp at hzz); obtain ⟨hc, hf⟩ := bcell hb) | (go_at_call 22; (with_reducible refine (laws_toTrack so n cap T X Y _ (RowAt.later (by repeat (first | with_reducible exact Below.refl _ _ | with_reducible assumption | with_reducible refine Below.drew ?_ | with_reducible refine below_drewN ?_ _ | with_reducible refine Below.setCell ?_ (by first | exact Nat.le_refl _ | (simp; done) | (simp; omega) | (dsimp only; omega)) _ | with_reducible refine Below.alloc ?_ (by first | exact Nat.le_refl _ | (simp; done) | (simp; omega) | (simp at *; omega)) _ | with_reducible refine bstep ?_ (by assumption))) HhJ.out) hn).mono ?_); rintro e w9 ⟨g3, rfl, hrow3, _, _, _, hb⟩; have Hrow3 := hide hrow3; clear hrow3) | (go_at_call 43; (with_reducible refine (HI.out _ _ _ Hrow3.out).mono ?_); rintro e w9 ⟨so3, cp3, rfl, hown, hb⟩; have H3 := hide (OwnL.row hown); clear hown))
      all_goals (try go_wp2_with fail)
      refine hK.out _ _ ?_ (fun hH2 => ?_)
      · first | exact bstep hHeld hb | exact hHeld
      clear hK K hHeld; (have hHeld := hH2); clear hH2; (try simp only [Act.put, List.setIfInBounds_toArray, List.set_cons_zero, List.set_cons_succ])
      refine wpAnyH_take (i := 5) (oi := ⟨some 79, _, _, _, _, _⟩) (v := ?_) rfl (by kernel_rfl) (by kernel_rfl) (by kernel_rfl) (fun _ _ _ h => h) (Or.inl ⟨by kernel_rfl, ?_⟩) (by assumption) ?_; rotate_left; focus (intro W0 hSw; go_simp; (try with_reducible rfl)); (try simp only [Act.put, List.setIfInBounds_toArray, List.set_cons_zero, List.set_cons_succ])
      refine wpAnyH_take (i := 6) (oi := ⟨some 85, _, _, _, _, _⟩) (v := ?_) rfl (by kernel_rfl) (by kernel_rfl) (by kernel_rfl) (fun _ _ _ h => h) (Or.inl ⟨by kernel_rfl, ?_⟩) (by assumption) ?_; rotate_left; focus (intro W0 hSw; go_simp; (try with_reducible rfl)); (try simp only [Act.put, List.setIfInBounds_toArray, List.set_cons_zero, List.set_cons_succ])
      refine wpAnyH_take (i := 7) (oi := ⟨some 86, _, _, _, _, _⟩) (v := ?_) rfl (by kernel_rfl) (by kernel_rfl) (by kernel_rfl) (fun _ _ _ h => h) (Or.inl ⟨by kernel_rfl, ?_⟩) (by assumption) ?_; rotate_left; focus (intro W0 hSw; go_simp; (try with_reducible rfl)); (try simp only [Act.put, List.setIfInBounds_toArray, List.set_cons_zero, List.set_cons_succ])
      refine wpAnyH_take (i := 8) (oi := ⟨some 14, _, _, _, _, _⟩) (v := ?_) rfl (by kernel_rfl) (by kernel_rfl) (by kernel_rfl) (fun _ _ _ h => h) (Or.inl ⟨by kernel_rfl, ?_⟩) (by assumption) ?_; rotate_left; focus (intro W0 hSw; go_simp; (try with_reducible rfl)); (try simp only [Act.put, List.setIfInBounds_toArray, List.set_cons_zero, List.set_cons_succ])
      refine wpAnyH_take (i := 9) (oi := ⟨some 15, _, _, _, _, _⟩) (v := ?_) rfl (by kernel_rfl) (by kernel_rfl) (by kernel_rfl) (fun _ _ _ h => h) (Or.inl ⟨by kernel_rfl, ?_⟩) (by assumption) ?_; rotate_left; focus (intro W0 hSw; go_simp; (try with_reducible rfl)); (try simp only [Act.put, List.setIfInBounds_toArray, List.set_cons_zero, List.set_cons_succ])
      refine wpAnyH_done (by kernel_rfl) ?_ _; (try simp only [Act.put, List.setIfInBounds_toArray, List.set_cons_zero, List.set_cons_succ])
      obtain ⟨wK, rfl⟩ : ∃ W : World, W = w9 := ⟨_, rfl⟩
      have HK := hide (bstep HJ.out hHeld)
      have H0K := hide (RowAt.later hHeld H0J.out)
      have HrowK := hide (RowAt.later hHeld HrowJ.out)
      clear l0 l1 l2 hb hHeld
      go_wp2_with fail; (with_reducible refine (laws_eqManoeuvreS _ _ _ _ _ _ _ _ H3.out H0K.out (by omega)).mono ?_); rintro e wL ⟨rfl, hbL⟩
      have HrowL := hide (RowAt.later hbL HrowK.out)
      have HLL := hide (bstep HK.out hbL)
      clear hbL
      go_wp2_with fail; (with_reducible refine (laws_heldManoeuvreS so1 L.length cp1 _ HrowL.out (by omega)).mono ?_); rintro e wM ⟨rfl, hbM⟩
      have HM := hide (bstep HLL.out hbM)
      clear hbM
      go_wp2
      go_ret
      exact ⟨rfl, HM.out⟩
  · go_enter Try.func10, Try.ntmps10
    go_wp2_with (go_at_call 20; (with_reducible refine (laws_szTrack_no _ _ _ _ _ (by omega) (by omega) (by omega)).mono ?_); rintro e w9 ⟨rfl, hb⟩; obtain ⟨hc, hf⟩ := bcell hb; have hz := hb.size; have z0 : w.heap.size < w9.heap.size := (by first | omega | (simp at hz; omega)); have z1 : w.heap.size + 1 < w9.heap.size := (by first | omega | (simp at hz; omega)))
    go_ret
    exact ⟨rfl, (by repeat (first | with_reducible exact Below.refl _ _ | with_reducible assumption | with_reducible refine Below.drew ?_ | with_reducible refine below_drewN ?_ _ | with_reducible refine Below.setCell ?_ (by first | exact Nat.le_refl _ | (simp; done) | (simp; omega) | (dsimp only; omega)) _ | with_reducible refine Below.alloc ?_ (by first | exact Nat.le_refl _ | (simp; done) | (simp; omega) | (simp at *; omega)) _ | with_reducible refine bstep ?_ (by assumption)))⟩

set_option maxRecDepth 100000 in
theorem FnExactManoeuvresOf_lifted (os : Os) (started : os.Started) (H : Type) (enc : TypeId × Value → H) :
    ReturnsInHanded {} Try.checked os 10 .any (Rows.fnExactManoeuvresOfSpec.pre6 enc Try.prog Try.f10 Rows.fnExactManoeuvresOfRow.domain false) (Rows.fnExactManoeuvresOfSpec.post enc Try.prog Try.f10 false true false false) := by
  refine returnsInHanded_of_change (C := Try.checked) Try.own started (by as_aux_lemma => kernel_rfl) Try.func10
    (ChangeSpec.witness6 (enc := enc) (C := Try.checked) false ⟨#[], #[.agg #[.int .i64 0, .int .i64 0], .agg #[.slice none 0 0]], []⟩ 8 (by as_aux_lemma => kernel_rfl) (by as_aux_lemma => kernel_rfl) (by as_aux_lemma => kernel_rfl) (by as_aux_lemma => kernel_rfl)) ?_
  intro W base args ds gs before hval0 hW _ _
  have hval : ∀ (j : Nat) t v, Try.f10.params[j]? = some t → args[j]? = some v → Value.okWide Try.prog W .any base t v := hval0
  have hW' := hW
  obtain ⟨p, q, hA0, hV, rfl, _, _⟩ := hW
  have hA : DataW.TrodAll enc Try.prog W 0 (fun _ => true) true Try.f10.params.toList args.toList ds p := hA0
  rw [Try.params10] at hA hval
  obtain ⟨v0, vs0, d0, ds0, p0, q0, hargs, rfl, rfl, h0, r0⟩ := trodAll_cons hA
  obtain ⟨v1, vs1, d1, ds1, p1, q1, rfl, rfl, rfl, h1, r1⟩ := trodAll_cons r0
  obtain ⟨rfl, rfl, rfl⟩ := trodAll_nil r1
  obtain rfl : args = #[v0, v1] := by cases args; simp_all
  obtain ⟨x0, y0, rfl⟩ := op_wind (hval 0 23 v0 rfl rfl) h0
  obtain ⟨so1, n1, cp1, T1, X1, Y1, rfl, hl1, hr1⟩ := op_track (hval 1 36 v1 rfl rfl) h1
  obtain ⟨rfl, rfl⟩ := trodVars_none hV
  refine (laws_FnExactManoeuvresOf x0 y0 so1 n1 cp1 T1 X1 Y1 W hl1 hr1).mono fun e W1 ⟨he, hb⟩ => ⟨_, he, ?_⟩
  exact law_post Try.laidOut (by as_aux_lemma => kernel_rfl) Try.underlying4 rfl rfl hW' rfl rfl rfl hb
set_option maxHeartbeats 8000000 in
theorem FnExactManoeuvresOf_closed : joinedFacts Try.prog 10 Try.f10 Rows.fnExactManoeuvresOfSpec Rows.fnExactManoeuvresOfRow = true := by
  simp only [joinedFacts, Bool.and_eq_true, Try.laidOut, Try.mapsRowed, Try.stopsNone, Try.stopKnobsNone, Try.plainKeysIs, Try.stopsHeardIs, Try.mayEnterIs, Try.liftsFinalIs, Try.makeIs, and_true, true_and]
  repeat' (with_reducible refine And.intro ?_ ?_)
  all_goals (as_aux_lemma => kernel_rfl)
set_option maxHeartbeats 8000000 in
/-- FnExactManoeuvresOf: whatever the input, the law returns true, and the input reads as it did. -/
theorem FnExactManoeuvresOf_holds : Rows.FnExactManoeuvresOfSaid :=
  OpenClaim.holds_of_wide 10 Try.f10 rfl rfl rfl rfl rfl rfl rfl ⟨rfl, rfl, rfl, rfl, rfl⟩ rfl rfl rfl rfl rfl (by as_aux_lemma => kernel_rfl) Try.func10
    FnExactManoeuvresOf_closed
    (of_decide_eq_true (by as_aux_lemma => kernel_rfl)) (by unfold Func.isWrapper; rw [if_neg (of_decide_eq_false (by as_aux_lemma => kernel_rfl))]; exact ⟨rfl, rfl⟩)
    (fun os started H enc _ => FnExactManoeuvresOf_lifted os started H enc)
#print axioms FnExactManoeuvresOf_holds
end Go.Proofs.Ytnnjfnbdljakmaa
