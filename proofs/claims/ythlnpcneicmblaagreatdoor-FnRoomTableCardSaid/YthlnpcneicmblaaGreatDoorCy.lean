/- Walks: a course is one: the program's. -/
import Derived.Test.YthlnpcneicmblaaGreatDoorCu
import Derived.Test.YthlnpcneicmblaaGreatDoorCs
import Derived.Test.YthlnpcneicmblaaGreatDoorCx
namespace Go.Proofs.YthlnpcneicmblaaGreatDoor
open Go.RowKit

theorem nameAt_low {N : Nat → ByteArray} {s : ByteArray} {k : Nat} (c : fresh N s k = false) : ∃ j : Nat, j < k ∧ nameAt N s k = (j : Int) := by
 have key : ∀ m, m ≤ k → fresh N s m = true ∨ ∃ j, j < m ∧ N j = s ∧ fresh N s j = true := by
  intro m
  induction m with
  | zero => intro _; exact .inl rfl
  | succ m ih =>
   intro hm
   rcases ih (by omega) with h | ⟨j, h1, h2⟩
   ·by_cases e : N m = s
    ·exact .inr ⟨m, by omega, e, h⟩
    ·exact .inl (by rw [fresh, h, decide_eq_false e]; rfl)
   ·exact .inr ⟨j, by omega, h2⟩
 rcases key k (Nat.le_refl _) with h | ⟨j, h1, h2, h3⟩
 ·rw [c] at h; cases h
 ·exact ⟨j, h1, nameAt_hit h1 h2 h3⟩
theorem apart_congr {X Y X' Y' : Nat → Int} : ∀ m, (∀ i, i ≤ m → X i = X' i ∧ Y i = Y' i) → apart X Y m = apart X' Y' m
 | 0, _ => rfl
 | m + 1, h => by
  rw [apart, apart, apart_congr m fun i hi => h i (by omega), (h m (by omega)).1, (h m (by omega)).2, (h (m + 1) (by omega)).1, (h (m + 1) (by omega)).2]
theorem isCo_a {ax ay bx bY cx cy dx dy : Int} {n : Nat} {N : Nat → ByteArray} {X Y S Z : Nat → Int} (h : isSg ax ay bx bY = false) : isCo ax ay bx bY cx cy dx dy n N X Y S Z = false := by unfold isCo; rw [h]; rfl
theorem isCo_b {ax ay bx bY cx cy dx dy : Int} {n : Nat} {N : Nat → ByteArray} {X Y S Z : Nat → Int} (h : isSg cx cy dx dy = false) : isCo ax ay bx bY cx cy dx dy n N X Y S Z = false := by unfold isCo; rw [h, Bool.and_false]; rfl
theorem isCo_c {ax ay bx bY cx cy dx dy : Int} {n : Nat} {N : Nat → ByteArray} {X Y S Z : Nat → Int} (h : n < 1 ∨ 8 < n) : isCo ax ay bx bY cx cy dx dy n N X Y S Z = false := by
 unfold isCo
 rw [show inB (n : Int) 1 8 = false by unfold inB; exact decide_eq_false (by omega), Bool.and_false]
 rfl
theorem isCo_d {ax ay bx bY cx cy dx dy : Int} {n : Nat} {N : Nat → ByteArray} {X Y S Z : Nat → Int} (h : marksOk N X Y S Z n = false) : isCo ax ay bx bY cx cy dx dy n N X Y S Z = false := by unfold isCo; rw [h, Bool.and_false]; rfl
theorem isCo_e {ax ay bx bY cx cy dx dy : Int} {n : Nat} {N : Nat → ByteArray} {X Y S Z : Nat → Int} (h1 : isSg ax ay bx bY = true) (h2 : isSg cx cy dx dy = true) (h3 : 1 ≤ n) (h4 : n ≤ 8) (h5 : marksOk N X Y S Z n = true) :
 isCo ax ay bx bY cx cy dx dy n N X Y S Z = apart (LX (stF ((ax + bx) / 2) ((ay + bY) / 2) ((cx + dx) / 2) ((cy + dy) / 2) X Y n)) (LY (stF ((ax + bx) / 2) ((ay + bY) / 2) ((cx + dx) / 2) ((cy + dy) / 2) X Y n)) (n + 1) := by
 unfold isCo
 rw [h1, h2, h5, show inB (n : Int) 1 8 = true by unfold inB; exact decide_eq_true (by omega)]
 refine (Bool.true_and _).trans (apart_congr _ fun i hi => ?_)
 obtain ⟨e1, e2⟩ := stF_at ((ax + bx) / 2) ((ay + bY) / 2) ((cx + dx) / 2) ((cy + dy) / 2) X Y n i (by omega)
 exact ⟨e1.symm, e2.symm⟩
set_option maxRecDepth 100000 in
set_option maxHeartbeats 8000000 in
theorem impl_IsCourse (ax ay bx bY cx cy dx dy : Int) (so : Option Addr) (n cap : Nat) (N : Nat → ByteArray) (X Y S Z : Nat → Int) (w : World) (h : RowAt w so n 5 (v5 N X Y S Z)) (hn : n ≤ 1048576) (hcap : n ≤ cap) :
 Calls Tryz.prog 58 #[.agg #[.int .i64 ax, .int .i64 ay, .int .i64 bx, .int .i64 bY, .int .i64 cx, .int .i64 cy, .int .i64 dx, .int .i64 dy, .slice so n cap]] w fun e w' => e = .returned (.bool (isCo ax ay bx bY cx cy dx dy n N X Y S Z)) ∧ Below w.heap.size w w' := by
 rcases b2 (isSg ax ay bx bY) with g1 | g1
 ·rw [isCo_a g1]
  go_enter Tryz.func58, Tryz.ntmps58
  go_wp2_with (go_at_call 79; (with_reducible refine (impl_IsLine _ _ _ _ _).mono ?_); rintro e w9 ⟨rfl, hb⟩; obtain ⟨hc, hf⟩ := bcell hb; have hz := hb.size; have z0 : w.heap.size < w9.heap.size := (by first | omega | (simp at hz; omega)))
  go_ret
  exact ⟨rfl, bwz⟩
 rcases b2 (isSg cx cy dx dy) with g2 | g2
 ·rw [isCo_b g2]
  go_enter Tryz.func58, Tryz.ntmps58
  go_wp2_with (go_at_call 79; (with_reducible refine (impl_IsLine _ _ _ _ _).mono ?_); rintro e w9 ⟨rfl, hb⟩; obtain ⟨hc, hf⟩ := bcell hb; have hz := hb.size; have z0 : w.heap.size < w9.heap.size := (by first | omega | (simp at hz; omega)))
  go_ret
  exact ⟨rfl, bwz⟩
 by_cases a1 : n < 1
 ·rw [isCo_c (.inl a1)]
  have c1 : (n : Int) < 1 := by omega
  go_enter Tryz.func58, Tryz.ntmps58
  go_wp2_with (go_at_call 79; (with_reducible refine (impl_IsLine _ _ _ _ _).mono ?_); rintro e w9 ⟨rfl, hb⟩; obtain ⟨hc, hf⟩ := bcell hb; have hz := hb.size; have z0 : w.heap.size < w9.heap.size := (by first | omega | (simp at hz; omega)))
  go_ret
  exact ⟨rfl, bwz⟩
 have c1 : ¬ (n : Int) < 1 := by omega
 by_cases a2 : 8 < n
 ·rw [isCo_c (.inr a2)]
  have c2 : (8 : Int) < (n : Int) := by omega
  go_enter Tryz.func58, Tryz.ntmps58
  go_wp2_with (go_at_call 79; (with_reducible refine (impl_IsLine _ _ _ _ _).mono ?_); rintro e w9 ⟨rfl, hb⟩; obtain ⟨hc, hf⟩ := bcell hb; have hz := hb.size; have z0 : w.heap.size < w9.heap.size := (by first | omega | (simp at hz; omega)))
  go_ret
  exact ⟨rfl, bwz⟩
 have c2 : ¬ (8 : Int) < (n : Int) := by omega
 obtain ⟨bo, hbo⟩ : ∃ b, b = isCo ax ay bx bY cx cy dx dy n N X Y S Z := ⟨_, rfl⟩
 have HBo := hide hbo
 have HG := hide (And.intro g1 g2)
 rw [← hbo]
 clear hbo
 go_enter Tryz.func58, Tryz.ntmps58
 go_upto_region 3 with (go_at_call 79; (with_reducible refine (impl_IsLine _ _ _ _ _).mono ?_); rintro e w9 ⟨rfl, hb⟩; obtain ⟨hc, hf⟩ := bcell hb; have hz := hb.size; have z0 : w.heap.size < w9.heap.size := (by first | omega | (simp at hz; omega)))
 obtain ⟨w1, rfl⟩ : ∃ x : World, x = w9 := ⟨_, rfl⟩
 have zz : w.heap.size < w1.heap.size := by first | omega | (have := hb.size; simp at this; omega)
 have q0 : w1.cell? ⟨w.heap.size, 0, none⟩ = some (.int .i64 ax) := by go_simp
 have q1 : w1.cell? ⟨w.heap.size, 1, none⟩ = some (.int .i64 ay) := by go_simp
 have q2 : w1.cell? ⟨w.heap.size, 2, none⟩ = some (.int .i64 bx) := by go_simp
 have q3 : w1.cell? ⟨w.heap.size, 3, none⟩ = some (.int .i64 bY) := by go_simp
 have q4 : w1.cell? ⟨w.heap.size, 4, none⟩ = some (.int .i64 cx) := by go_simp
 have q5 : w1.cell? ⟨w.heap.size, 5, none⟩ = some (.int .i64 cy) := by go_simp
 have q6 : w1.cell? ⟨w.heap.size, 6, none⟩ = some (.int .i64 dx) := by go_simp
 have q7 : w1.cell? ⟨w.heap.size, 7, none⟩ = some (.int .i64 dy) := by go_simp
 have q8 : w1.cell? ⟨w.heap.size, 8, none⟩ = some (.slice so n cap) := by go_simp
 have HB1 := hide (show Below w.heap.size w w1 from bwz)
 clear hb hc hf g1 g2 c1 c2
 go_wp2
 go_loopw [31] (fun i wr => ∃ k : Nat, k ≤ n ∧ i = .int .i64 k ∧ Hid (marksOk N X Y S Z k = true) ∧ Below w1.heap.size w1 wr) (fun i _ => n - (intOf i).toNat)
 case atStart => exact ⟨0, Nat.zero_le _, rfl, hide rfl, Below.refl _ _⟩
 case round =>
  obtain ⟨k, hk, rfl, HK, hbl⟩ := hrel
  have zr := hbl.size
  have zr0 : w.heap.size < wr.heap.size := by omega
  have HBr := hide (bstep HB1.out hbl)
  have r8 := cell_later hbl q8
  by_cases hlt : k < n
  ·obtain ⟨b, o, rfl, hbs, e0, e1, e2, e3, e4⟩ := (RowAt.later HBr.out h).at5 k hlt
   have hi0 : (0 : Int) ≤ (k : Int) := by omega
   have hi1 : (k : Int) < (n : Int) := by omega
   have hi2 : (k : Int) ≤ (cap : Int) := by omega
   have hi3 : k ≤ cap := by omega
   have KN := hide (fun W (hb : Below w.heap.size w W) => impl_markNamed (some ⟨b, o, none⟩) k cap N X Y S Z (N k) W (RowAt.take (RowAt.later hb h) (by omega)) (by omega))
   have KM := hide (fun W => impl_isMark (N k) (X k) (Y k) (S k) (Z k) W)
   have Hbl := hide hbl
   go_upto_region 6 with fail
   obtain ⟨wA, hA⟩ : ∃ W, W = wr.alloc (.cells #[.string (N k), .int .i64 (X k), .int .i64 (Y k), .int .i64 (S k), .int .i64 (Z k)] 60) := ⟨_, rfl⟩
   have m0 : wA.cell? ⟨wr.heap.size, 0, none⟩ = some (.string (N k)) := by rw [hA]; go_simp
   have m1 : wA.cell? ⟨wr.heap.size, 1, none⟩ = some (.int .i64 (X k)) := by rw [hA]; go_simp
   have m2 : wA.cell? ⟨wr.heap.size, 2, none⟩ = some (.int .i64 (Y k)) := by rw [hA]; go_simp
   have m3 : wA.cell? ⟨wr.heap.size, 3, none⟩ = some (.int .i64 (S k)) := by rw [hA]; go_simp
   have m4 : wA.cell? ⟨wr.heap.size, 4, none⟩ = some (.int .i64 (Z k)) := by rw [hA]; go_simp
   have s8 : wA.cell? ⟨w.heap.size, 8, none⟩ = some (.slice (some ⟨b, o, none⟩) n cap) := by rw [hA]; go_simp
   have HBA := hide (show Below w.heap.size w wA by rw [hA]; exact Below.alloc HBr.out (by omega) _)
   have HBL := hide (show Below w1.heap.size w1 wA by rw [hA]; exact Below.alloc Hbl.out (by omega) _)
   have za : wr.heap.size < wA.heap.size := by rw [hA]; simp
   have za0 : w.heap.size < wA.heap.size := by omega
   rw [← hA]
   clear hA r8 e0 e1 e2 e3 e4 hbl Hbl HBr
   rcases b2 (isMk (N k) (X k) (Y k) (S k) (Z k)) with d1 | d1
   ·have Hf := hide (show bo = false by rw [HBo.out]; exact isCo_d (marksOk_f hlt (.inl d1)))
    rw [d1] at KM
    clear d1
    refine wp_region_held_drew (S := fun W => Below wA.heap.size wA W) (by kernel_rfl) (Below.drew (Below.refl _ _)) (fun hHeld => ?_)
    refine tkL 0 (some 36) rfl ?_; simp only [pz]
    refine rd1 1 (some 37) rfl (fun K hK => ?_)
    go_simp; (go_at_call 80; (with_reducible refine (KM.out _).mono ?_); rintro e w9 ⟨rfl, hb⟩; have hzz := hb.size)
    all_goals (try go_wp2_with fail)
    refine hK.out _ _ ?_ (fun hH2 => ?_)
    ·exact hhz
    clear hK K hHeld; (have hHeld := hH2); clear hH2; (try simp only [pz])
    refine tkN 2 (some 38) rfl ?_; simp only [pz]
    refine tkN 3 (some 39) rfl ?_; simp only [pz]
    refine tkO 4 (some 40) rfl ?_; simp only [pz]
    refine tkO 5 (some 41) rfl ?_; simp only [pz]
    refine tkO 6 (some 42) rfl ?_; simp only [pz]
    refine tkO 7 (some 43) rfl ?_; simp only [pz]
    refine tkO 8 (some 44) rfl ?_; simp only [pz]
    refine tkO 9 (some 45) rfl ?_; simp only [pz]
    refine tkO 10 (some 46) rfl ?_; simp only [pz]
    refine tkO 11 (some 47) rfl ?_; simp only [pz]
    refine tkN 12 (some 48) rfl ?_; simp only [pz]
    refine wpAnyH_done (by kernel_rfl) ?_ _; (try simp only [pz])
    have hf := Hf.out
    subst hf
    go_wp2
    go_ret
    exact ⟨rfl, bstep HBA.out hHeld⟩
   ·rw [d1] at KM
    rcases b2 (fresh N (N k) k) with d2 | d2
    ·obtain ⟨j, hj, hj2⟩ := nameAt_low d2
     have Hf := hide (show bo = false by rw [HBo.out]; exact isCo_d (marksOk_f hlt (.inr d2)))
     rw [hj2] at KN
     have hj3 : (0 : Int) ≤ (j : Int) := by omega
     clear d1 d2 hj2
     refine wp_region_held_drew (S := fun W => Below wA.heap.size wA W) (by kernel_rfl) (Below.drew (Below.refl _ _)) (fun hHeld => ?_)
     refine tkL 0 (some 36) rfl ?_; simp only [pz]
     refine rd1 1 (some 37) rfl (fun K hK => ?_)
     go_simp; (go_at_call 80; (with_reducible refine (KM.out _).mono ?_); rintro e w9 ⟨rfl, hb⟩; have hzz := hb.size)
     all_goals (try go_wp2_with fail)
     refine hK.out _ _ ?_ (fun hH2 => ?_)
     ·exact hhz
     clear hK K hHeld; (have hHeld := hH2); clear hH2; (try simp only [pz])
     refine tkN 2 (some 38) rfl ?_; simp only [pz]
     refine tkN 3 (some 39) rfl ?_; simp only [pz]
     refine tkN 4 (some 40) rfl ?_; simp only [pz]
     refine tkL 5 (some 41) rfl ?_; simp only [pz]
     refine tkN 6 (some 42) rfl ?_; simp only [pz]
     refine tkN 7 (some 43) rfl ?_; simp only [pz]
     refine tkN 8 (some 44) rfl ?_; simp only [pz]
     refine tkL 9 (some 45) rfl ?_; simp only [pz]
     refine rd1 10 (some 46) rfl (fun K hK => ?_)
     go_simp; (go_at_call 81; (with_reducible refine (KN.out _ (bstep HBA.out bwz)).mono ?_); rintro e w9 ⟨rfl, hb⟩; have hzz := hb.size)
     all_goals (try go_wp2_with fail)
     refine hK.out _ _ ?_ (fun hH2 => ?_)
     ·exact hhz
     clear hK K hHeld; (have hHeld := hH2); clear hH2; (try simp only [pz])
     refine tkN 11 (some 47) rfl ?_; simp only [pz]
     refine tkN 12 (some 48) rfl ?_; simp only [pz]
     refine wpAnyH_done (by kernel_rfl) ?_ _; (try simp only [pz])
     have hf := Hf.out
     subst hf
     go_wp2
     go_ret
     exact ⟨rfl, bstep HBA.out hHeld⟩
    ·rw [nameAt_miss d2] at KN
     have Hs := hide (marksOk_s HK.out d1 d2)
     clear d1 d2
     refine wp_region_held_drew (S := fun W => Below wA.heap.size wA W) (by kernel_rfl) (Below.drew (Below.refl _ _)) (fun hHeld => ?_)
     refine tkL 0 (some 36) rfl ?_; simp only [pz]
     refine rd1 1 (some 37) rfl (fun K hK => ?_)
     go_simp; (go_at_call 80; (with_reducible refine (KM.out _).mono ?_); rintro e w9 ⟨rfl, hb⟩; have hzz := hb.size)
     all_goals (try go_wp2_with fail)
     refine hK.out _ _ ?_ (fun hH2 => ?_)
     ·exact hhz
     clear hK K hHeld; (have hHeld := hH2); clear hH2; (try simp only [pz])
     refine tkN 2 (some 38) rfl ?_; simp only [pz]
     refine tkN 3 (some 39) rfl ?_; simp only [pz]
     refine tkN 4 (some 40) rfl ?_; simp only [pz]
     refine tkL 5 (some 41) rfl ?_; simp only [pz]
     refine tkN 6 (some 42) rfl ?_; simp only [pz]
     refine tkN 7 (some 43) rfl ?_; simp only [pz]
     refine tkN 8 (some 44) rfl ?_; simp only [pz]
     refine tkL 9 (some 45) rfl ?_; simp only [pz]
     refine rd1 10 (some 46) rfl (fun K hK => ?_)
     go_simp; (go_at_call 81; (with_reducible refine (KN.out _ (bstep HBA.out bwz)).mono ?_); rintro e w9 ⟨rfl, hb⟩; have hzz := hb.size)
     all_goals (try go_wp2_with fail)
     refine hK.out _ _ ?_ (fun hH2 => ?_)
     ·exact hhz
     clear hK K hHeld; (have hHeld := hH2); clear hH2; (try simp only [pz])
     refine tkN 11 (some 47) rfl ?_; simp only [pz]
     refine tkN 12 (some 48) rfl ?_; simp only [pz]
     refine wpAnyH_done (by kernel_rfl) ?_ _; (try simp only [pz])
     go_wp2
     go_roundw
     case rel => exact ⟨k + 1, by omega, by go_num, Hs, bstep HBL.out hHeld⟩
     case measure => simp [intOf]; omega
  ·obtain rfl : k = n := by omega
   have r0 := cell_later hbl q0
   have r1 := cell_later hbl q1
   have r2 := cell_later hbl q2
   have r3 := cell_later hbl q3
   have r4 := cell_later hbl q4
   have r5 := cell_later hbl q5
   have r6 := cell_later hbl q6
   have r7 := cell_later hbl q7
   have Hbl := hide hbl
   obtain ⟨L, hL⟩ : ∃ L, L = stF ((ax + bx) / 2) ((ay + bY) / 2) ((cx + dx) / 2) ((cy + dy) / 2) X Y k := ⟨_, rfl⟩
   have hLn : L.length = k + 2 := by rw [hL]; exact stF_len _ _ _ _ _ _ _
   have HE := hide (show bo = apart (LX L) (LY L) (k + 1) by rw [HBo.out, hL]; exact isCo_e HG.out.1 HG.out.2 (by omega) (by omega) HK.out)
   have KS := hide (impl_stationsOf ax ay bx bY cx cy dx dy so k cap N X Y S Z wr (RowAt.later HBr.out h) (by omega) HG.out.1 HG.out.2)
   rw [← hL] at KS
   clear hbl q0 q1 q2 q3 q4 q5 q6 q7 q8 hL
   go_wp2_with fail
   (with_reducible refine KS.out.mono ?_); rintro e wS ⟨so5, cp5, rfl, hcp, ho, hb5⟩
   have HO := hide ho
   have HB5 := hide hb5
   clear ho hb5 r0 r1 r2 r3 r4 r5 r6 r7 KS
   have hLn' := hide hLn
   have KC := hide (fun (W : World) (hw : OwnL W wr.heap.size L so5) => (show Calls Tryz.prog 83 #[.slice so5 (k + 2) cp5] W fun e w' => ∃ so' r cp, e = .returned (.slice so' r cp) ∧ CmpQ L r ∧ Below wr.heap.size W w' from hLn ▸ slices_Compact so5 cp5 wr.heap.size L W hw (by omega) (by omega) (by omega)))
   go_upto_region 10 with fail
   refine wp_region_held_drew (S := fun W => Below wr.heap.size wr W) (by kernel_rfl) (Below.drew (HB5.out)) (fun hHeld => ?_)
   refine tkN 0 (some 52) rfl ?_; simp only [pz]
   refine tkN 3 (some 55) rfl ?_; simp only [pz]
   refine tkL 4 (some 56) rfl ?_; simp only [pz]
   refine tkN 5 (some 57) rfl ?_; simp only [pz]
   refine tkN 6 (some 58) rfl ?_; simp only [pz]
   refine rd1 1 (some 53) rfl (fun K hK => ?_)
   go_simp; (go_at_call 83; (with_reducible refine (KC.out _ (OwnL.later (by repeat (first | with_reducible exact Below.refl _ _ | with_reducible refine Below.drew ?_)) HO.out)).mono ?_); rintro e w9 ⟨so9, r9, cp9, rfl, hq, hb⟩; have Hq := hide hq; clear hq)
   all_goals (try go_wp2_with fail)
   refine hK.out _ _ ?_ (fun hH2 => ?_)
   ·exact hhz
   clear hK K hHeld; (have hHeld := hH2); clear hH2; (try simp only [pz])
   refine tkN 2 (some 54) rfl ?_; simp only [pz]
   refine tkN 7 (some 59) rfl ?_; simp only [pz]
   refine tkN 8 (some 2) rfl ?_; simp only [pz]
   refine wpAnyH_done (by kernel_rfl) ?_ _; (try simp only [pz])
   have HE9 := hide (show ((r9 : Int) == IntKind.i64.wrap ((k : Int) + 2)) = bo by
    rw [show IntKind.i64.wrap ((k : Int) + 2) = (k : Int) + 2 from IntWalk.i64_in _ (by omega)]
    have := Hq.out
    unfold CmpQ at this
    rw [hLn'.out, Nat.add_sub_cancel (n := k + 1) (m := 1)] at this
    rw [HE.out, Bool.eq_iff_iff, ← this, beq_iff_eq]
    omega)
   go_wp2
   go_ret
   exact ⟨congrArg (fun b => Ending.returned (.bool b)) HE9.out, HBr.out.trans (hHeld.mono (by omega))⟩
end Go.Proofs.YthlnpcneicmblaaGreatDoor
namespace Go.Proofs.YthlnpcneicmblaaGreatDoor
open Go.RowKit
theorem cmp_pts (a b c d : Int) (W : World) : (binOp .eql 26 (.agg #[.int .i64 a, .int .i64 b]) (.agg #[.int .i64 c, .int .i64 d])).run Tryz.prog W = .ok (.bool (a == c && b == d)) W := by
 rcases b2 (a == c) with h1 | h1 <;> rcases b2 (b == d) with h2 | h2 <;> simp [run_eql_struct, run_equalIn_agg, go_sem, *]
set_option maxRecDepth 100000 in
set_option maxHeartbeats 8000000 in
theorem spec_IsCourse (ax ay bx bY cx cy dx dy : Int) (so : Option Addr) (n cap : Nat) (N : Nat → ByteArray) (X Y S Z : Nat → Int) (w : World) (h : RowAt w so n 5 (v5 N X Y S Z)) (hn : n ≤ 1048576) :
 Calls Tryz.prog 15 #[.agg #[.int .i64 ax, .int .i64 ay, .int .i64 bx, .int .i64 bY, .int .i64 cx, .int .i64 cy, .int .i64 dx, .int .i64 dy, .slice so n cap]] w fun e w' => e = .returned (.bool (isCo ax ay bx bY cx cy dx dy n N X Y S Z)) ∧ Below w.heap.size w w' := by
 rcases b2 (isSg ax ay bx bY) with g1 | g1
 ·rw [isCo_a g1]
  go_enter Tryz.func15, Tryz.ntmps15
  go_wp2_with (go_at_call 26; (with_reducible refine (spec_IsLine _ _ _ _ _).mono ?_); rintro e w9 ⟨rfl, hb⟩; obtain ⟨hc, hf⟩ := bcell hb; have hz := hb.size; have z0 : w.heap.size < w9.heap.size := (by first | omega | (simp at hz; omega)))
  go_ret
  exact ⟨rfl, bwz⟩
 rcases b2 (isSg cx cy dx dy) with g2 | g2
 ·rw [isCo_b g2]
  go_enter Tryz.func15, Tryz.ntmps15
  go_wp2_with (go_at_call 26; (with_reducible refine (spec_IsLine _ _ _ _ _).mono ?_); rintro e w9 ⟨rfl, hb⟩; obtain ⟨hc, hf⟩ := bcell hb; have hz := hb.size; have z0 : w.heap.size < w9.heap.size := (by first | omega | (simp at hz; omega)))
  go_ret
  exact ⟨rfl, bwz⟩
 by_cases a1 : n < 1
 ·rw [isCo_c (.inl a1)]
  have c1 : (n : Int) < 1 := by omega
  go_enter Tryz.func15, Tryz.ntmps15
  go_wp2_with (go_at_call 26; (with_reducible refine (spec_IsLine _ _ _ _ _).mono ?_); rintro e w9 ⟨rfl, hb⟩; obtain ⟨hc, hf⟩ := bcell hb; have hz := hb.size; have z0 : w.heap.size < w9.heap.size := (by first | omega | (simp at hz; omega)))
  go_ret
  exact ⟨rfl, bwz⟩
 have c1 : ¬ (n : Int) < 1 := by omega
 by_cases a2 : 8 < n
 ·rw [isCo_c (.inr a2)]
  have c2 : (8 : Int) < (n : Int) := by omega
  go_enter Tryz.func15, Tryz.ntmps15
  go_wp2_with (go_at_call 26; (with_reducible refine (spec_IsLine _ _ _ _ _).mono ?_); rintro e w9 ⟨rfl, hb⟩; obtain ⟨hc, hf⟩ := bcell hb; have hz := hb.size; have z0 : w.heap.size < w9.heap.size := (by first | omega | (simp at hz; omega)))
  go_ret
  exact ⟨rfl, bwz⟩
 have c2 : ¬ (8 : Int) < (n : Int) := by omega
 obtain ⟨bo, hbo⟩ : ∃ b, b = isCo ax ay bx bY cx cy dx dy n N X Y S Z := ⟨_, rfl⟩
 have HBo := hide hbo
 have HG := hide (And.intro g1 g2)
 rw [← hbo]
 clear hbo
 go_enter Tryz.func15, Tryz.ntmps15
 go_upto_region 4 with (go_at_call 26; (with_reducible refine (spec_IsLine _ _ _ _ _).mono ?_); rintro e w9 ⟨rfl, hb⟩; obtain ⟨hc, hf⟩ := bcell hb; have hz := hb.size; have z0 : w.heap.size < w9.heap.size := (by first | omega | (simp at hz; omega)))
 obtain ⟨w1, rfl⟩ : ∃ x : World, x = w9 := ⟨_, rfl⟩
 have zz : w.heap.size < w1.heap.size := by first | omega | (have := hb.size; simp at this; omega)
 have q0 : w1.cell? ⟨w.heap.size, 0, none⟩ = some (.int .i64 ax) := by go_simp
 have q1 : w1.cell? ⟨w.heap.size, 1, none⟩ = some (.int .i64 ay) := by go_simp
 have q2 : w1.cell? ⟨w.heap.size, 2, none⟩ = some (.int .i64 bx) := by go_simp
 have q3 : w1.cell? ⟨w.heap.size, 3, none⟩ = some (.int .i64 bY) := by go_simp
 have q4 : w1.cell? ⟨w.heap.size, 4, none⟩ = some (.int .i64 cx) := by go_simp
 have q5 : w1.cell? ⟨w.heap.size, 5, none⟩ = some (.int .i64 cy) := by go_simp
 have q6 : w1.cell? ⟨w.heap.size, 6, none⟩ = some (.int .i64 dx) := by go_simp
 have q7 : w1.cell? ⟨w.heap.size, 7, none⟩ = some (.int .i64 dy) := by go_simp
 have q8 : w1.cell? ⟨w.heap.size, 8, none⟩ = some (.slice so n cap) := by go_simp
 have HB1 := hide (show Below w.heap.size w w1 from bwz)
 clear hb hc hf g1 g2 c1 c2
 go_wp2
 go_loopw [4] (fun i wr => ∃ k : Nat, k ≤ n ∧ i = .int .i64 k ∧ Hid (marksOk N X Y S Z k = true) ∧ Below w1.heap.size w1 wr) (fun i _ => n - (intOf i).toNat)
 case atStart => exact ⟨0, Nat.zero_le _, rfl, hide rfl, Below.refl _ _⟩
 case round =>
  obtain ⟨k, hk, rfl, HK, hbl⟩ := hrel
  have zr := hbl.size
  have zr0 : w.heap.size < wr.heap.size := by omega
  have HBr := hide (bstep HB1.out hbl)
  have r0 := cell_later hbl q0
  have r1 := cell_later hbl q1
  have r2 := cell_later hbl q2
  have r3 := cell_later hbl q3
  have r4 := cell_later hbl q4
  have r5 := cell_later hbl q5
  have r6 := cell_later hbl q6
  have r7 := cell_later hbl q7
  have r8 := cell_later hbl q8
  by_cases hlt : k < n
  ·obtain ⟨b, o, rfl, hbs, e0, e1, e2, e3, e4⟩ := (RowAt.later HBr.out h).at5 k hlt
   have hi0 : (0 : Int) ≤ (k : Int) := by omega
   have hi1 : (k : Int) < (n : Int) := by omega
   have KN := hide (fun W (hb : Below w.heap.size w W) => spec_l04Named ax ay bx bY cx cy dx dy (some ⟨b, o, none⟩) n cap N X Y S Z (N k) W (RowAt.later hb h) (by omega))
   have KM := hide (fun W => spec_l04Mark (N k) (X k) (Y k) (S k) (Z k) W)
   have Hbl := hide hbl
   clear hbl q0 q1 q2 q3 q4 q5 q6 q7 q8
   go_upto_region 7 with fail
   rcases b2 (isMk (N k) (X k) (Y k) (S k) (Z k)) with d1 | d1
   ·have Hf := hide (show bo = false by rw [HBo.out]; exact isCo_d (marksOk_f hlt (.inl d1)))
    rw [d1] at KM
    clear d1
    refine wp_region_held_drew (S := fun W => Below wr.heap.size wr W) (by kernel_rfl) (Below.drew (Below.refl _ _)) (fun hHeld => ?_)
    refine tkN 0 (some 33) rfl ?_; simp only [pz]
    refine tkL 1 (some 34) rfl ?_; simp only [pz]
    refine tkN 2 (some 35) rfl ?_; simp only [pz]
    refine tkN 3 (some 36) rfl ?_; simp only [pz]
    refine tkL 4 (some 37) rfl ?_; simp only [pz]
    refine rd1 5 (some 38) rfl (fun K hK => ?_)
    go_simp; (go_at_call 27; (with_reducible refine (KM.out _).mono ?_); rintro e w9 ⟨rfl, hb⟩; have hzz := hb.size)
    all_goals (try go_wp2_with fail)
    refine hK.out _ _ ?_ (fun hH2 => ?_)
    ·exact hhz
    clear hK K hHeld; (have hHeld := hH2); clear hH2; (try simp only [pz])
    refine tkN 6 (some 39) rfl ?_; simp only [pz]
    refine tkN 7 (some 40) rfl ?_; simp only [pz]
    refine tkO 8 (some 41) rfl ?_; simp only [pz]
    refine tkO 9 (some 42) rfl ?_; simp only [pz]
    refine tkO 10 (some 43) rfl ?_; simp only [pz]
    refine tkO 11 (some 44) rfl ?_; simp only [pz]
    refine tkO 12 (some 45) rfl ?_; simp only [pz]
    refine tkO 13 (some 46) rfl ?_; simp only [pz]
    refine tkO 14 (some 47) rfl ?_; simp only [pz]
    refine tkO 15 (some 48) rfl ?_; simp only [pz]
    refine tkO 16 (some 49) rfl ?_; simp only [pz]
    refine tkO 17 (some 50) rfl ?_; simp only [pz]
    refine tkN 18 (some 51) rfl ?_; simp only [pz]
    refine wpAnyH_done (by kernel_rfl) ?_ _; (try simp only [pz])
    have hf := Hf.out
    subst hf
    go_wp2
    go_ret
    exact ⟨rfl, bstep HBr.out hHeld⟩
   ·rw [d1] at KM
    rcases nameAt_own (N := N) (n := n) hlt with ⟨d2, hj2⟩ | ⟨d2, j, hj, hj2⟩
    ·rw [hj2] at KN
     have Hs := hide (marksOk_s HK.out d1 d2)
     have hne : ((k : Int) != (k : Int)) = false := bne_self_eq_false _
     clear d1 d2 hj2
     refine wp_region_held_drew (S := fun W => Below wr.heap.size wr W) (by kernel_rfl) (Below.drew (Below.refl _ _)) (fun hHeld => ?_)
     refine tkN 0 (some 33) rfl ?_; simp only [pz]
     refine tkL 1 (some 34) rfl ?_; simp only [pz]
     refine tkN 2 (some 35) rfl ?_; simp only [pz]
     refine tkN 3 (some 36) rfl ?_; simp only [pz]
     refine tkL 4 (some 37) rfl ?_; simp only [pz]
     refine rd1 5 (some 38) rfl (fun K hK => ?_)
     go_simp; (go_at_call 27; (with_reducible refine (KM.out _).mono ?_); rintro e w9 ⟨rfl, hb⟩; have hzz := hb.size)
     all_goals (try go_wp2_with fail)
     refine hK.out _ _ ?_ (fun hH2 => ?_)
     ·exact hhz
     clear hK K hHeld; (have hHeld := hH2); clear hH2; (try simp only [pz])
     refine tkN 6 (some 39) rfl ?_; simp only [pz]
     refine tkN 7 (some 40) rfl ?_; simp only [pz]
     refine tkL 8 (some 41) rfl ?_; simp only [pz]
     refine tkN 9 (some 42) rfl ?_; simp only [pz]
     refine tkL 10 (some 43) rfl ?_; simp only [pz]
     refine tkN 11 (some 44) rfl ?_; simp only [pz]
     refine tkN 12 (some 45) rfl ?_; simp only [pz]
     refine tkN 13 (some 46) rfl ?_; simp only [pz]
     refine tkL 14 (some 47) rfl ?_; simp only [pz]
     refine tkN 16 (some 49) rfl ?_; simp only [pz]
     refine rd1 15 (some 48) rfl (fun K hK => ?_)
     go_simp; (go_at_call 28; (with_reducible refine (KN.out _ (bstep HBr.out bwz)).mono ?_); rintro e w9 ⟨rfl, hb⟩; have hzz := hb.size)
     all_goals (try go_wp2_with fail)
     refine hK.out _ _ ?_ (fun hH2 => ?_)
     ·exact hhz
     clear hK K hHeld; (have hHeld := hH2); clear hH2; (try simp only [pz])
     refine tkN 17 (some 50) rfl ?_; simp only [pz]
     refine tkN 18 (some 51) rfl ?_; simp only [pz]
     refine wpAnyH_done (by kernel_rfl) ?_ _; (try simp only [pz])
     have hm := hide (bstep Hbl.out hHeld)
     go_wp2
     go_roundw
     case rel => exact ⟨k + 1, by omega, by go_num, Hs, hm.out⟩
     case measure => simp [intOf]; omega
    ·have Hf := hide (show bo = false by rw [HBo.out]; exact isCo_d (marksOk_f hlt (.inr d2)))
     rw [hj2] at KN
     have hne : ((j : Int) != (k : Int)) = true := bne_iff_ne.2 (by omega)
     clear d1 d2 hj2
     refine wp_region_held_drew (S := fun W => Below wr.heap.size wr W) (by kernel_rfl) (Below.drew (Below.refl _ _)) (fun hHeld => ?_)
     refine tkN 0 (some 33) rfl ?_; simp only [pz]
     refine tkL 1 (some 34) rfl ?_; simp only [pz]
     refine tkN 2 (some 35) rfl ?_; simp only [pz]
     refine tkN 3 (some 36) rfl ?_; simp only [pz]
     refine tkL 4 (some 37) rfl ?_; simp only [pz]
     refine rd1 5 (some 38) rfl (fun K hK => ?_)
     go_simp; (go_at_call 27; (with_reducible refine (KM.out _).mono ?_); rintro e w9 ⟨rfl, hb⟩; have hzz := hb.size)
     all_goals (try go_wp2_with fail)
     refine hK.out _ _ ?_ (fun hH2 => ?_)
     ·exact hhz
     clear hK K hHeld; (have hHeld := hH2); clear hH2; (try simp only [pz])
     refine tkN 6 (some 39) rfl ?_; simp only [pz]
     refine tkN 7 (some 40) rfl ?_; simp only [pz]
     refine tkL 8 (some 41) rfl ?_; simp only [pz]
     refine tkN 9 (some 42) rfl ?_; simp only [pz]
     refine tkL 10 (some 43) rfl ?_; simp only [pz]
     refine tkN 11 (some 44) rfl ?_; simp only [pz]
     refine tkN 12 (some 45) rfl ?_; simp only [pz]
     refine tkN 13 (some 46) rfl ?_; simp only [pz]
     refine tkL 14 (some 47) rfl ?_; simp only [pz]
     refine tkN 16 (some 49) rfl ?_; simp only [pz]
     refine rd1 15 (some 48) rfl (fun K hK => ?_)
     go_simp; (go_at_call 28; (with_reducible refine (KN.out _ (bstep HBr.out bwz)).mono ?_); rintro e w9 ⟨rfl, hb⟩; have hzz := hb.size)
     all_goals (try go_wp2_with fail)
     refine hK.out _ _ ?_ (fun hH2 => ?_)
     ·exact hhz
     clear hK K hHeld; (have hHeld := hH2); clear hH2; (try simp only [pz])
     refine tkN 17 (some 50) rfl ?_; simp only [pz]
     refine tkN 18 (some 51) rfl ?_; simp only [pz]
     refine wpAnyH_done (by kernel_rfl) ?_ _; (try simp only [pz])
     have hf := Hf.out
     subst hf
     go_wp2
     go_ret
     exact ⟨rfl, bstep HBr.out hHeld⟩
  ·obtain rfl : k = n := by omega
   have Hbl := hide hbl
   obtain ⟨L, hL⟩ : ∃ L, L = stF ((ax + bx) / 2) ((ay + bY) / 2) ((cx + dx) / 2) ((cy + dy) / 2) X Y k := ⟨_, rfl⟩
   have hLn : L.length = k + 2 := by rw [hL]; exact stF_len _ _ _ _ _ _ _
   have HE := hide (show bo = apart (LX L) (LY L) (k + 1) by rw [HBo.out, hL]; exact isCo_e HG.out.1 HG.out.2 (by omega) (by omega) HK.out)
   have KS := hide (spec_l04Stations ax ay bx bY cx cy dx dy so k cap N X Y S Z wr (RowAt.later HBr.out h) (by omega) HG.out.1 HG.out.2)
   rw [← hL] at KS
   clear hbl q0 q1 q2 q3 q4 q5 q6 q7 q8 hL
   go_wp2_with fail
   (with_reducible refine KS.out.mono ?_); rintro e wS ⟨so5, cp5, rfl, hcp, ho, hb5⟩
   obtain ⟨m, hm⟩ : ∃ m, m = L.length := ⟨_, rfl⟩
   have hr1 := ho.1
   rw [← hm] at hr1 hLn
   rw [← hm]
   have HR := hide hr1
   have HB5 := hide (bstep HBr.out hb5)
   have hm2 : 2 ≤ m := by omega
   have hm10 : m ≤ 10 := by omega
   have Hmk := hide hLn
   clear ho hb5 r0 r1 r2 r3 r4 r5 r6 r7 r8 KS hr1 hm hLn
   have hcmp := cmp_pts
   go_wp2
   go_loopw [6] (fun i wr => ∃ q : Nat, 1 ≤ q ∧ q ≤ m ∧ i = .int .i64 q ∧ Hid (apart (LX L) (LY L) (q - 1) = true) ∧ Below wS.heap.size wS wr) (fun i _ => m - (intOf i).toNat)
   case atStart => exact ⟨1, Nat.le_refl _, by omega, rfl, hide rfl, Below.refl _ _⟩
   case round =>
    obtain ⟨q, hq1, hq, rfl, HA, hbl⟩ := hrel
    by_cases hlt2 : q < m
    ·have hi0 : (0 : Int) ≤ (q : Int) := by omega
     have hi1 : (q : Int) < (m : Int) := by omega
     have hi2 : (0 : Int) ≤ ((q - 1 : Nat) : Int) := by omega
     have hi3 : ((q - 1 : Nat) : Int) < (m : Int) := by omega
     have HWr := hide (show IntKind.i64.wrap ((q : Int) - 1) = ((q - 1 : Nat) : Int) by rw [show (q : Int) - 1 = ((q - 1 : Nat) : Int) by omega]; exact IntWalk.i64_in _ (by omega))
     obtain ⟨b9, o9, rfl, hbs9, c0, c1⟩ := (RowAt.later hbl HR.out).at2 q hlt2
     obtain ⟨d0, d1⟩ := (RowAt.later hbl HR.out).on2 (q - 1) (by omega)
     have Hbl := hide hbl
     obtain ⟨x, hx⟩ : ∃ x, x = LX L q := ⟨_, rfl⟩
     obtain ⟨y, hy⟩ : ∃ y, y = LY L q := ⟨_, rfl⟩
     obtain ⟨u, hu⟩ : ∃ u, u = LX L (q - 1) := ⟨_, rfl⟩
     obtain ⟨v, hv⟩ : ∃ v, v = LY L (q - 1) := ⟨_, rfl⟩
     rw [← hx] at c0
     rw [← hy] at c1
     rw [← hu] at d0
     rw [← hv] at d1
     have HS := hide (show (LX L (q - 1) == LX L (q - 1 + 1) && LY L (q - 1) == LY L (q - 1 + 1)) = (u == x && v == y) by
      rw [show q - 1 + 1 = q by omega, hx, hy, hu, hv])
     clear hx hy hu hv hbl
     obtain ⟨bb, hb⟩ : ∃ b, b = (u == x && v == y) := ⟨_, rfl⟩
     have hb' : (u == x && v == y) = bb := hb.symm
     rw [← hb] at HS
     clear hb
     go_upto_region 13 with fail
     have hwr := HWr.out
     refine wp_region_held_drew (S := fun W => Below wr.heap.size wr W) (by kernel_rfl) (Below.drew (Below.refl _ _)) (fun hHeld => ?_)
     refine tkN 0 (some 60) rfl ?_; simp only [pz]
     refine tkN 1 (some 61) rfl ?_; simp only [pz]
     refine tkN 2 (some 62) rfl ?_; simp only [pz]
     refine tkN 3 (some 63) rfl ?_; simp only [pz]
     refine tkL 4 (some 64) rfl ?_; simp only [pz]
     refine tkN 5 (some 65) rfl ?_; simp only [pz]
     refine tkN 6 (some 66) rfl ?_; simp only [pz]
     refine tkN 7 (some 67) rfl ?_; simp only [pz]
     refine tkL 8 (some 68) rfl ?_; simp only [pz]
     refine tkN 9 (some 69) rfl ?_; simp only [pz]
     refine wpAnyH_done (by kernel_rfl) ?_ _; (try simp only [pz])
     clear hwr
     have HBP := hide (bstep Hbl.out hHeld)
     clear hHeld c0 c1 d0 d1 hb'
     cases bb
     ·have Hn := hide (show apart (LX L) (LY L) (q + 1 - 1) = true by
       rw [Nat.add_sub_cancel]
       have := apart_s HA.out HS.out
       rwa [show q - 1 + 1 = q by omega] at this)
      go_wp2
      go_roundw
      case rel => exact ⟨q + 1, by omega, by omega, by go_num, Hn, HBP.out⟩
      case measure => simp [intOf]; omega
     ·have Hf := hide (show bo = false by rw [HE.out]; exact apart_f (i := q - 1) (by have := Hmk.out; omega) HS.out)
      have hf := Hf.out
      subst hf
      go_wp2
      go_ret
      exact ⟨rfl, bstep HB5.out HBP.out⟩
    ·obtain rfl : q = m := by omega
     have Hf := hide (show bo = true by rw [HE.out, show k + 1 = q - 1 by have := Hmk.out; omega]; exact HA.out)
     have hf := Hf.out
     subst hf
     go_wp2
     go_ret
     exact ⟨rfl, bstep HB5.out hbl⟩
end Go.Proofs.YthlnpcneicmblaaGreatDoor
