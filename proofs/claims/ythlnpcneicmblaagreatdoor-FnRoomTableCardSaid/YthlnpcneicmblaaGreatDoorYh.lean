/- Walks: a course, a mark and two tracks are drawn. -/
import Derived.Test.YthlnpcneicmblaaGreatDoorYg
import Derived.Test.YthlnpcneicmblaaGreatDoorTb0
namespace Go.Proofs.YthlnpcneicmblaaGreatDoor
open Go.RowKit

theorem new3b {W : World} {o : Obj} {e : TypeId} {x y z : Value} : ∀ (j : Nat) (u : Value), [x, y, z][j]? = some u → ((W.alloc o).alloc (.cells #[x, y, z] e)).cell? ((⟨W.heap.size + 1, 0, none⟩ : Addr).add j) = some u := fun j u h => by
 have := new3 (W := W.alloc o) (e := e) (x := x) (y := y) (z := z) j u h
 rwa [size_al] at this
theorem CoB.below {W W' : World} {b k : Nat} {ax ay bx bY cx cy dx dy : Int} {so : Option Addr} {n cap : Nat} (h : CoB W b ax ay bx bY cx cy dx dy so n cap) (hb : Below k W W') (hk : b < k) : CoB W' b ax ay bx bY cx cy dx dy so n cap := by
 obtain ⟨c0, c1, c2, c3, c4, c5, c6, c7, c8, f0, f1, f2, f3, f4, f5, f6, f7, f8⟩ := h
 have k' := fun j => (bcell hb).1 b j hk
 have l' := fun j => (bcell hb).2 b j hk
 exact ⟨(k' 0).trans c0, (k' 1).trans c1, (k' 2).trans c2, (k' 3).trans c3, (k' 4).trans c4, (k' 5).trans c5, (k' 6).trans c6, (k' 7).trans c7, (k' 8).trans c8, (l' 0).trans f0, (l' 1).trans f1, (l' 2).trans f2, (l' 3).trans f3, (l' 4).trans f4, (l' 5).trans f5, (l' 6).trans f6, (l' 7).trans f7, (l' 8).trans f8⟩
theorem bool2 (a : Bool) : a = false ∨ a = true := by cases a <;> simp
/-- What a draw of a course, a mark and two tracks returns. -/
def CkD (w : World) (g : Nat) (e : Ending) (w' : World) : Prop :=
 (∃ (ax ay bx bY cx cy dx dy : Int) (so : Option Addr) (n cap : Nat) (N : Nat → ByteArray) (X Y S Z : Nat → Int) (k : Int) (so2 : Option Addr) (n2 cap2 : Nat) (Lt : List Int) (so3 : Option Addr) (n3 cap3 : Nat) (Lu : List Int), e = .returned (.tuple #[.agg #[.int .i64 ax, .int .i64 ay, .int .i64 bx, .int .i64 bY, .int .i64 cx, .int .i64 cy, .int .i64 dx, .int .i64 dy, .slice so n cap], .int .i64 k, .agg #[.slice so2 n2 cap2], .agg #[.slice so3 n3 cap3]]) ∧ n ≤ 9 ∧ n ≤ cap ∧ OwnM w' w.heap.size N X Y S Z n so ∧ n2 ≤ 41 ∧ n2 ≤ cap2 ∧ OwnI 3 2000000000 w' w.heap.size Lt n2 so2 ∧ n3 ≤ 41 ∧ n3 ≤ cap3 ∧ OwnI 3 2000000000 w' w.heap.size Lu n3 so3) ∧ w.grownBy w' (some g) ∧ Src w' g
set_option maxRecDepth 100000 in
set_option maxHeartbeats 16000000 in
theorem spec_l11DrawTracks (g : Nat) (w : World) (h : Src w g) : Calls Tryz.prog 13 #[.pointer (some ⟨g, 0, none⟩)] w (CkD w g) := by
 have ng := Src.lt h
 have nz0 : ¬ w.heap.size = g := by omega
 have nz1 : ¬ g = w.heap.size := by omega
 have nz2 : ¬ w.heap.size + 1 = g := by omega
 have nz3 : ¬ w.heap.size + 1 + 1 = g := by omega
 obtain ⟨i0, hi, hz0, hz1, hz2⟩ := info_parts infoFix
 have Hi := hide hi
 have Hz := hide (And.intro hz0 (And.intro hz1 hz2))
 clear hi hz0 hz1 hz2
 go_enter Tryz.func13, Tryz.ntmps13
 go_wp2_with fail; (with_reducible refine (spec_l07Draw g _ swz).mono ?_); rintro e w1 ⟨⟨ax, ay, bx, bY, cx, cy, dx, dy, so, n, cap, N, X, Y, S, Z, k, so2, n2, cap2, Lt, rfl, q1, q2, ho, qc, qd, qe, ht⟩, hg1, hs1⟩; have hc1 := gcell hg1; have hf1 := gfroz hg1; have lg1 := Src.lt hs1; have nga1 : ¬ w1.heap.size = g := (by omega); have ngb1 : ¬ g = w1.heap.size := (by omega); have hzs1 := hg1.size; (try simp at hzs1); have zx1_0 : w.heap.size < w1.heap.size := (by first | omega | (simp at hzs1; omega)); have zy1_0 : w.heap.size < w1.heap.size + 1 := (by omega); have zw1_0 : ¬ w1.heap.size = w.heap.size := (by omega); have zv1_0 : ¬ w.heap.size = w1.heap.size := (by omega); have zu1_0 : w.heap.size < w1.heap.size + 1 + 1 := (by omega); have zt1_0 : ¬ w1.heap.size + 1 = w.heap.size := (by omega); have zr1_0 : ¬ w.heap.size = w1.heap.size + 1 := (by omega); have zx1_1 : w.heap.size + 1 < w1.heap.size := (by first | omega | (simp at hzs1; omega)); have zy1_1 : w.heap.size + 1 < w1.heap.size + 1 := (by omega); have zw1_1 : ¬ w1.heap.size = w.heap.size + 1 := (by omega); have zv1_1 : ¬ w.heap.size + 1 = w1.heap.size := (by omega); have zu1_1 : w.heap.size + 1 < w1.heap.size + 1 + 1 := (by omega); have zt1_1 : ¬ w1.heap.size + 1 = w.heap.size + 1 := (by omega); have zr1_1 : ¬ w.heap.size + 1 = w1.heap.size + 1 := (by omega); have zx1_2 : w.heap.size + 1 + 1 < w1.heap.size := (by first | omega | (simp at hzs1; omega)); have zy1_2 : w.heap.size + 1 + 1 < w1.heap.size + 1 := (by omega); have zw1_2 : ¬ w1.heap.size = w.heap.size + 1 + 1 := (by omega); have zv1_2 : ¬ w.heap.size + 1 + 1 = w1.heap.size := (by omega); have zu1_2 : w.heap.size + 1 + 1 < w1.heap.size + 1 + 1 := (by omega); have zt1_2 : ¬ w1.heap.size + 1 = w.heap.size + 1 + 1 := (by omega); have zr1_2 : ¬ w.heap.size + 1 + 1 = w1.heap.size + 1 := (by omega)
 simp only [size_al] at ho ht
 have hzz1 := hg1.size
 simp only [size_al] at hzz1
 have HO1 := hide ho
 have HT1 := hide ht
 obtain ⟨b2, rfl, hb2B, hb2l, hbc⟩ := ht.blk (by omega)
 have HBc := hide hbc
 have HTM := hide ht.2.1
 have hra : Mine ((w.alloc (.cells #[.int .i64 0, .int .i64 0, .int .i64 0, .int .i64 0, .int .i64 0, .int .i64 0, .int .i64 0, .int .i64 0, .slice none 0 0] 31)).alloc (.cells #[.slice none 0 0] 45)) w.heap.size 9 := Mine.later (Below.alloc (Below.refl _ _) (Nat.le_refl _) _) (mine_make rfl)
 have hrb : Mine ((w.alloc (.cells #[.int .i64 0, .int .i64 0, .int .i64 0, .int .i64 0, .int .i64 0, .int .i64 0, .int .i64 0, .int .i64 0, .slice none 0 0] 31)).alloc (.cells #[.slice none 0 0] 45)) (w.heap.size + 1) 1 := by
  have := mine_make (w := w.alloc (.cells #[.int .i64 0, .int .i64 0, .int .i64 0, .int .i64 0, .int .i64 0, .int .i64 0, .int .i64 0, .int .i64 0, .slice none 0 0] 31)) (c := #[.slice none 0 0]) (t := 45) (m := 1) rfl
  rwa [size_al] at this
 have hrc : Mine (((w.alloc (.cells #[.int .i64 0, .int .i64 0, .int .i64 0, .int .i64 0, .int .i64 0, .int .i64 0, .int .i64 0, .int .i64 0, .slice none 0 0] 31)).alloc (.cells #[.slice none 0 0] 45)).alloc (.cells #[.slice none 0 0] 45)) (w.heap.size + 1 + 1) 1 := by
  have := mine_make (w := (w.alloc (.cells #[.int .i64 0, .int .i64 0, .int .i64 0, .int .i64 0, .int .i64 0, .int .i64 0, .int .i64 0, .int .i64 0, .slice none 0 0] 31)).alloc (.cells #[.slice none 0 0] 45)) (c := #[.slice none 0 0]) (t := 45) (m := 1) rfl
  rwa [size_al, size_al] at this
 have HRa := hide (mine_grow (Mine.later (Below.alloc (Below.refl _ _) (Nat.le_refl _) _) hra) hg1 (by simp; omega) nz0)
 have HRb := hide (mine_grow (Mine.later (Below.alloc (Below.refl _ _) (Nat.le_refl _) _) hrb) hg1 (by simp) nz2)
 have HRc := hide (mine_grow hrc hg1 (by simp) nz3)
 have HG1 := hide (show w.grownBy w1 (some g) from gwz)
 have HS1 := hide hs1
 have zw0 : w.heap.size < w1.heap.size := by omega
 have zw1 : w.heap.size + 1 < w1.heap.size := by omega
 have zw2 : w.heap.size + 1 + 1 < w1.heap.size := by omega
 have n1g : ¬ w1.heap.size = g := by omega
 have n2g : ¬ w1.heap.size + 1 = g := by omega
 have n3g : ¬ w1.heap.size + 1 + 1 = g := by omega
 have nb2g : ¬ b2 = g := by omega
 clear ho ht hbc hra hrb hrc hc1 hf1 hg1 hs1
 go_upto_region 3 with fail
 obtain ⟨wB, hB⟩ : ∃ x, x = ((w1.alloc (.cells #[.int .i64 ax, .int .i64 ay, .int .i64 bx, .int .i64 bY, .int .i64 cx, .int .i64 cy, .int .i64 dx, .int .i64 dy, .slice so n cap] 31)).alloc (.cells #[.slice (some ⟨b2, 0, none⟩) n2 cap2] 45)).alloc (.cells #[.slice (some ⟨b2, 0, none⟩) n2 cap2] 45) := ⟨_, rfl⟩
 have HC0 := hide (show CoB wB w1.heap.size ax ay bx bY cx cy dx dy so n cap by rw [hB]; exact ⟨by go_simp, by go_simp, by go_simp, by go_simp, by go_simp, by go_simp, by go_simp, by go_simp, by go_simp, by go_simp, by go_simp, by go_simp, by go_simp, by go_simp, by go_simp, by go_simp, by go_simp, by go_simp⟩)
 have H80 := hide (show wB.cell? ⟨w1.heap.size + 1, 0, none⟩ = some (.slice (some ⟨b2, 0, none⟩) n2 cap2) ∧ wB.frozen? ⟨w1.heap.size + 1, 0, none⟩ = false by rw [hB]; exact ⟨by go_simp, by go_simp⟩)
 have H90 := hide (show wB.cell? ⟨w1.heap.size + 1 + 1, 0, none⟩ = some (.slice (some ⟨b2, 0, none⟩) n2 cap2) ∧ wB.frozen? ⟨w1.heap.size + 1 + 1, 0, none⟩ = false by rw [hB]; exact ⟨by go_simp, by go_simp⟩)
 have HS0 := hide (show Src wB g by rw [hB]; exact Src.alloc (Src.alloc (Src.alloc HS1.out _) _) _)
 have HG0 := hide (show w1.grownBy wB (some g) by rw [hB]; exact gr_alloc (gr_alloc (gr_alloc (World.grownBy.refl _ _) _) _) _)
 have zB : w1.heap.size + 1 + 1 < wB.heap.size := by rw [hB]; simp
 rw [← hB]
 clear hB
 go_cut [33] (fun s W => ∃ bb : Bool, s = .bool bb ∧ Hid (CoB W w1.heap.size ax ay bx bY cx cy dx dy so n cap) ∧ Hid (W.cell? ⟨w1.heap.size + 1, 0, none⟩ = some (.slice (some ⟨b2, 0, none⟩) n2 cap2) ∧ W.frozen? ⟨w1.heap.size + 1, 0, none⟩ = false) ∧ Hid (W.cell? ⟨w1.heap.size + 1 + 1, 0, none⟩ = some (.slice (some ⟨b2, 0, none⟩) n2 cap2) ∧ W.frozen? ⟨w1.heap.size + 1 + 1, 0, none⟩ = false) ∧ Hid (Src W g) ∧ Hid (w1.grownBy W (some g)) ∧ w1.heap.size + 1 + 1 < W.heap.size)
 case first =>
  have lgB := Src.lt HS0.out
  obtain ⟨m0, m1⟩ := H80.out
  have zB8 : w1.heap.size + 1 < wB.heap.size := by omega
  go_wp2_with fail; (with_reducible refine (spec_l01NextN g 4 4 _ HS0.out (by decide) (by decide) (by decide)).mono ?_); rintro e w3 ⟨⟨x3, rfl, hx3⟩, hg3, hs3⟩; have hc3 := gcell hg3; have hf3 := gfroz hg3; have lg3 := Src.lt hs3; have nga3 : ¬ w3.heap.size = g := (by omega); have ngb3 : ¬ g = w3.heap.size := (by omega); have hzs3 := hg3.size; (try simp at hzs3); have zx3_0 : w1.heap.size + 1 < w3.heap.size := (by first | omega | (simp at hzs3; omega)); have zy3_0 : w1.heap.size + 1 < w3.heap.size + 1 := (by omega); have zw3_0 : ¬ w3.heap.size = w1.heap.size + 1 := (by omega); have zv3_0 : ¬ w1.heap.size + 1 = w3.heap.size := (by omega); have zu3_0 : w1.heap.size + 1 < w3.heap.size + 1 + 1 := (by omega); have zt3_0 : ¬ w3.heap.size + 1 = w1.heap.size + 1 := (by omega); have zr3_0 : ¬ w1.heap.size + 1 = w3.heap.size + 1 := (by omega)
  have hzz3 := hg3.size
  have HC3 := hide (HC0.out.grown hg3 (by omega) n1g)
  have H83 := hide (And.intro (cell_grown hg3 n2g H80.out.1) ((gfroz hg3 _ _ (by omega) n2g).trans H80.out.2))
  have H93 := hide (And.intro (cell_grown hg3 n3g H90.out.1) ((gfroz hg3 _ _ (by omega) n3g).trans H90.out.2))
  have HG3 := hide (gr_step HG0.out hg3)
  have HS3 := hide hs3
  have z3 : w1.heap.size + 1 + 1 < w3.heap.size := by omega
  clear hc3 hf3 hg3 hs3 HC0 H80 H90 HS0 HG0 m0 m1
  by_cases h3 : x3 = 0
  ·subst h3
   go_wp2_with fail
   go_meet
   exact ⟨_, rfl, HC3, H83, H93, HS3, HG3, z3⟩
  have h3i : (0 : Int) < (x3 : Int) := by omega
  obtain ⟨m0, m1⟩ := H83.out
  have KT := hide (fun W (hg : w1.grownBy W (some g)) => spec_IsTrack (some ⟨b2, 0, none⟩) n2 cap2 _ _ _ W (HT1.out.grown hg (by omega)).row3 (by omega))
  have KT9 := hide (fun (bb : Bool) (hb : isTr n2 (q3 Lt 0) (q3 Lt 1) (q3 Lt 2) = bb) W hg => hb ▸ KT.out W hg)
  rcases bool2 (isTr n2 (q3 Lt 0) (q3 Lt 1) (q3 Lt 2)) with ht | ht
  ·have KT2 := hide (KT9.out false ht)
   clear KT KT9 ht
   go_wp2_with fail; (with_reducible refine (KT2.out _ HG3.out).mono ?_); rintro e w4 ⟨rfl, hb4⟩
   have z4 := hb4.size
   have HC4 := hide (HC3.out.later hb4)
   have H84 := hide (And.intro (cell_later hb4 H83.out.1) (frozen_later hb4 H83.out.1 H83.out.2))
   have H94 := hide (And.intro (cell_later hb4 H93.out.1) (frozen_later hb4 H93.out.1 H93.out.2))
   have HG4 := hide (gr_belowB HG3.out (hb4.mono (by omega)))
   have HS4 := hide (Src.keep hb4 HS3.out)
   clear hb4
   go_wp2_with fail
   go_meet
   exact ⟨_, rfl, HC4, H84, H94, HS4, HG4, by omega⟩
  ·have KT2 := hide (KT9.out true ht)
   clear KT KT9 ht
   go_wp2_with fail; (with_reducible refine (KT2.out _ HG3.out).mono ?_); rintro e w4 ⟨rfl, hb4⟩
   have z4 := hb4.size
   have HC4 := hide (HC3.out.later hb4)
   have H84 := hide (And.intro (cell_later hb4 H83.out.1) (frozen_later hb4 H83.out.1 H83.out.2))
   have H94 := hide (And.intro (cell_later hb4 H93.out.1) (frozen_later hb4 H93.out.1 H93.out.2))
   have HG4 := hide (gr_belowB HG3.out (hb4.mono (by omega)))
   have HS4 := hide (Src.keep hb4 HS3.out)
   clear hb4
   have lg4 := Src.lt HS4.out
   go_wp2_with fail; (with_reducible refine (spec_l01NextN g 12 12 _ HS4.out (by decide) (by decide) (by decide)).mono ?_); rintro e w5 ⟨⟨x5, rfl, hx5⟩, hg5, hs5⟩; have hc5 := gcell hg5; have hf5 := gfroz hg5; have lg5 := Src.lt hs5; have nga5 : ¬ w5.heap.size = g := (by omega); have ngb5 : ¬ g = w5.heap.size := (by omega); have hzs5 := hg5.size; (try simp at hzs5); have zx5_0 : w1.heap.size + 1 < w5.heap.size := (by first | omega | (simp at hzs5; omega)); have zy5_0 : w1.heap.size + 1 < w5.heap.size + 1 := (by omega); have zw5_0 : ¬ w5.heap.size = w1.heap.size + 1 := (by omega); have zv5_0 : ¬ w1.heap.size + 1 = w5.heap.size := (by omega); have zu5_0 : w1.heap.size + 1 < w5.heap.size + 1 + 1 := (by omega); have zt5_0 : ¬ w5.heap.size + 1 = w1.heap.size + 1 := (by omega); have zr5_0 : ¬ w1.heap.size + 1 = w5.heap.size + 1 := (by omega)
   have hzz5 := hg5.size
   have zB4 : w1.heap.size + 1 + 1 < w4.heap.size := by omega
   have HC5 := hide (HC4.out.grown hg5 (by omega) n1g)
   have H85 := hide (And.intro (cell_grown hg5 n2g H84.out.1) ((gfroz hg5 _ _ (by omega) n2g).trans H84.out.2))
   have H95 := hide (And.intro (cell_grown hg5 n3g H94.out.1) ((gfroz hg5 _ _ (by omega) n3g).trans H94.out.2))
   have HG5 := hide (gr_step HG4.out hg5)
   have HS5 := hide hs5
   go_wp2_with fail
   all_goals
    go_meet
    exact ⟨_, rfl, HC5, H85, H95, HS5, HG5, by omega⟩
 case rest =>
  clear HC0 H80 H90 HS0 HG0
  obtain ⟨bb, rfl, HC, H8, H9, HS, HG, zc⟩ := hcut
  obtain ⟨wK, rfl⟩ : ∃ x : World, x = wc := ⟨_, rfl⟩
  go_upto_if 33 with fail
  go_cut [33] (fun s W => ∃ (so3 : Option Addr) (n3 cap3 : Nat) (Lu : List Int), n3 ≤ 41 ∧ n3 ≤ cap3 ∧ Hid (CoB W w1.heap.size ax ay bx bY cx cy dx dy so n cap) ∧ Hid (W.cell? ⟨w1.heap.size + 1, 0, none⟩ = some (.slice (some ⟨b2, 0, none⟩) n2 cap2) ∧ W.frozen? ⟨w1.heap.size + 1, 0, none⟩ = false) ∧ Hid (W.cell? ⟨w1.heap.size + 1 + 1, 0, none⟩ = some (.slice so3 n3 cap3) ∧ W.frozen? ⟨w1.heap.size + 1 + 1, 0, none⟩ = false) ∧ Hid (OwnI 3 2000000000 W (w.heap.size + 1 + 1 + 1) Lu n3 so3) ∧ Hid (Src W g) ∧ Hid (w1.grownBy W (some g)) ∧ w1.heap.size + 1 + 1 < W.heap.size)
  case first =>
   cases bb
   ·obtain ⟨c0, c1, c2, c3, c4, c5, c6, c7, c8, f0, f1, f2, f3, f4, f5, f6, f7, f8⟩ := HC.out
    obtain ⟨m0, m1⟩ := H9.out
    have hn9 : n ≤ 9 := q1
    have KI := hide (fun W (hg : w1.grownBy W (some g)) => spec_IsCourse ax ay bx bY cx cy dx dy so n cap N X Y S Z W (HO1.out.grown hg (by omega)).row (by omega))
    have KI9 := hide (fun (bb : Bool) (hb : isCo ax ay bx bY cx cy dx dy n N X Y S Z = bb) W hg => hb ▸ KI.out W hg)
    rcases bool2 (isCo ax ay bx bY cx cy dx dy n N X Y S Z) with hco | hco
    ·have KI2 := hide (KI9.out false hco)
     clear KI KI9 hco
     go_wp2_with fail; (with_reducible refine (KI2.out _ HG.out).mono ?_); rintro e w4 ⟨rfl, hb4⟩
     have z4 := hb4.size
     have HC4 := hide (HC.out.later hb4)
     have H84 := hide (And.intro (cell_later hb4 H8.out.1) (frozen_later hb4 H8.out.1 H8.out.2))
     have H94 := hide (And.intro (cell_later hb4 H9.out.1) (frozen_later hb4 H9.out.1 H9.out.2))
     have HG4 := hide (gr_belowB HG.out (hb4.mono (by omega)))
     have HS4 := hide (Src.keep hb4 HS.out)
     clear hb4
     go_wp2_with fail
     go_meet
     exact ⟨_, n2, cap2, Lt, by omega, by omega, HC4, H84, H94, hide (HT1.out.grown HG4.out (by omega)), HS4, HG4, by omega⟩
    ·have KI2 := hide (KI9.out true hco)
     clear KI KI9 hco
     go_wp2_with fail; (with_reducible refine (KI2.out _ HG.out).mono ?_); rintro e w4 ⟨rfl, hb4⟩
     have z4 := hb4.size
     have HC4 := hide (HC.out.later hb4)
     have H84 := hide (And.intro (cell_later hb4 H8.out.1) (frozen_later hb4 H8.out.1 H8.out.2))
     have H94 := hide (And.intro (cell_later hb4 H9.out.1) (frozen_later hb4 H9.out.1 H9.out.2))
     have HG4 := hide (gr_belowB HG.out (hb4.mono (by omega)))
     have HS4 := hide (Src.keep hb4 HS.out)
     clear hb4
     have lg4 := Src.lt HS4.out
     have zB4 : w1.heap.size + 1 + 1 < w4.heap.size := by omega
     have z14 : w1.heap.size < w4.heap.size := by omega
     clear c0 f0 c1 f1 c2 f2 c3 f3 c4 f4 c5 f5 c6 f6 c7 f7 c8 f8 m0 m1
     obtain ⟨c0, c1, c2, c3, c4, c5, c6, c7, c8, f0, f1, f2, f3, f4, f5, f6, f7, f8⟩ := HC4.out
     obtain ⟨m0, m1⟩ := H94.out
     go_wp2_with fail; (with_reducible refine (spec_l06DrawSail ax ay bx bY cx cy dx dy so n cap N X Y S Z g _ HS4.out (fun W hg => (HO1.out.grown (gr_step HG4.out hg) (by omega)).row) (by omega)).mono ?_); rintro e w5 ⟨⟨so5, n5, cap5, L5, rfl, u1, u2, u3, ho5⟩, hg5, hs5⟩; have hc5 := gcell hg5; have hf5 := gfroz hg5; have lg5 := Src.lt hs5; have nga5 : ¬ w5.heap.size = g := (by omega); have ngb5 : ¬ g = w5.heap.size := (by omega); have hzs5 := hg5.size; (try simp at hzs5); have zx5_0 : w1.heap.size < w5.heap.size := (by first | omega | (simp at hzs5; omega)); have zy5_0 : w1.heap.size < w5.heap.size + 1 := (by omega); have zw5_0 : ¬ w5.heap.size = w1.heap.size := (by omega); have zv5_0 : ¬ w1.heap.size = w5.heap.size := (by omega); have zu5_0 : w1.heap.size < w5.heap.size + 1 + 1 := (by omega); have zt5_0 : ¬ w5.heap.size + 1 = w1.heap.size := (by omega); have zr5_0 : ¬ w1.heap.size = w5.heap.size + 1 := (by omega); have zx5_1 : w1.heap.size + 1 < w5.heap.size := (by first | omega | (simp at hzs5; omega)); have zy5_1 : w1.heap.size + 1 < w5.heap.size + 1 := (by omega); have zw5_1 : ¬ w5.heap.size = w1.heap.size + 1 := (by omega); have zv5_1 : ¬ w1.heap.size + 1 = w5.heap.size := (by omega); have zu5_1 : w1.heap.size + 1 < w5.heap.size + 1 + 1 := (by omega); have zt5_1 : ¬ w5.heap.size + 1 = w1.heap.size + 1 := (by omega); have zr5_1 : ¬ w1.heap.size + 1 = w5.heap.size + 1 := (by omega); have zx5_2 : w1.heap.size + 1 + 1 < w5.heap.size := (by first | omega | (simp at hzs5; omega)); have zy5_2 : w1.heap.size + 1 + 1 < w5.heap.size + 1 := (by omega); have zw5_2 : ¬ w5.heap.size = w1.heap.size + 1 + 1 := (by omega); have zv5_2 : ¬ w1.heap.size + 1 + 1 = w5.heap.size := (by omega); have zu5_2 : w1.heap.size + 1 + 1 < w5.heap.size + 1 + 1 := (by omega); have zt5_2 : ¬ w5.heap.size + 1 = w1.heap.size + 1 + 1 := (by omega); have zr5_2 : ¬ w1.heap.size + 1 + 1 = w5.heap.size + 1 := (by omega)
     have hzz5 := hg5.size
     have HU5 := hide (ho5.mono (show (40000 : Int) ≤ 2000000000 by decide) (Nat.le_refl _))
     have HC5 := hide (HC4.out.grown hg5 (by omega) n1g)
     have H85 := hide (And.intro (cell_grown hg5 n2g H84.out.1) ((gfroz hg5 _ _ (by omega) n2g).trans H84.out.2))
     have H95 := hide (And.intro (cell_grown hg5 n3g H94.out.1) ((gfroz hg5 _ _ (by omega) n3g).trans H94.out.2))
     have HG5 := hide (gr_step HG4.out hg5)
     have HS5 := hide hs5
     obtain ⟨m2, m3⟩ := H95.out
     clear hc5 hf5 hg5 hs5 ho5 c0 f0 c1 f1 c2 f2 c3 f3 c4 f4 c5 f5 c6 f6 c7 f7 c8 f8 m0 m1
     go_wp2_with fail
     go_meet
     have HP : Spot (w1.heap.size + 1 + 1) w5 (w5.setCell ⟨w1.heap.size + 1 + 1, 0, none⟩ (.slice so5 n5 cap5)) := (Spot.refl _ _).set
     exact ⟨so5, n5, cap5, L5, by omega, u3, hide (HC5.out.far (by omega)), hide ⟨(HP.cell (by omega)).trans H85.out.1, (HP.froz' _ _).trans H85.out.2⟩, hide ⟨cell_same m2, (World.frozen?_setCell _ _ _ _).trans m3⟩, hide ((HU5.out.spot HP (by omega)).mono (Int.le_refl _) (by omega)), hide (HP.src (by omega) HS5.out), hide (HP.grow (by omega) HG5.out), by rw [HP.size]; omega⟩
   ·have lgK := Src.lt HS.out
    go_wp2_with fail; (with_reducible refine (spec_l01NextN g 120 120 _ (Src.alloc HS.out _) (by decide) (by decide) (by decide)).mono ?_); rintro e w3 ⟨⟨x3, rfl, hx3⟩, hg3, hs3⟩; have hc3 := gcell hg3; have hf3 := gfroz hg3; have lg3 := Src.lt hs3; have nga3 : ¬ w3.heap.size = g := (by omega); have ngb3 : ¬ g = w3.heap.size := (by omega); have hzs3 := hg3.size; (try simp at hzs3); have zx3_0 : w1.heap.size + 1 < w3.heap.size := (by first | omega | (simp at hzs3; omega)); have zy3_0 : w1.heap.size + 1 < w3.heap.size + 1 := (by omega); have zw3_0 : ¬ w3.heap.size = w1.heap.size + 1 := (by omega); have zv3_0 : ¬ w1.heap.size + 1 = w3.heap.size := (by omega); have zu3_0 : w1.heap.size + 1 < w3.heap.size + 1 + 1 := (by omega); have zt3_0 : ¬ w3.heap.size + 1 = w1.heap.size + 1 := (by omega); have zr3_0 : ¬ w1.heap.size + 1 = w3.heap.size + 1 := (by omega)
    have hzz3 := hg3.size
    simp only [size_al] at hzz3
    have hal := Below.alloc (Below.refl wK.heap.size wK) (Nat.le_refl _) (.cells #[] 68)
    have HO3 := hide (own_kept (own_new wK wK.heap.size wK.heap.size rfl (Nat.le_refl _)) hg3 (by omega))
    have HCa := hide (HC.out.later hal)
    have H8a := hide (And.intro (cell_later hal H8.out.1) (frozen_later hal H8.out.1 H8.out.2))
    have H9a := hide (And.intro (cell_later hal H9.out.1) (frozen_later hal H9.out.1 H9.out.2))
    have HGa := hide (gr_alloc HG.out (.cells #[] 68))
    have zal : wK.heap.size < (wK.alloc (.cells #[] 68)).heap.size := by simp
    have HC3 := hide (HCa.out.grown hg3 (by omega) n1g)
    have H83 := hide (And.intro (cell_grown hg3 n2g H8a.out.1) ((gfroz hg3 _ _ (by omega) n2g).trans H8a.out.2))
    have H93 := hide (And.intro (cell_grown hg3 n3g H9a.out.1) ((gfroz hg3 _ _ (by omega) n3g).trans H9a.out.2))
    have HG3 := hide (gr_step HGa.out hg3)
    have HS3 := hide hs3
    have lg3' := Src.lt HS3.out
    clear hal hc3 hf3 hg3 hs3 HC H8 H9 HS HG HCa H8a H9a HGa
    go_wp2_with fail; (with_reducible refine (spec_l01NextN g 120 120 _ HS3.out (by decide) (by decide) (by decide)).mono ?_); rintro e w5 ⟨⟨x5, rfl, hx5⟩, hg5, hs5⟩; have hc5 := gcell hg5; have hf5 := gfroz hg5; have lg5 := Src.lt hs5; have nga5 : ¬ w5.heap.size = g := (by omega); have ngb5 : ¬ g = w5.heap.size := (by omega); have hzs5 := hg5.size; (try simp at hzs5); have zx5_0 : w1.heap.size + 1 < w5.heap.size := (by first | omega | (simp at hzs5; omega)); have zy5_0 : w1.heap.size + 1 < w5.heap.size + 1 := (by omega); have zw5_0 : ¬ w5.heap.size = w1.heap.size + 1 := (by omega); have zv5_0 : ¬ w1.heap.size + 1 = w5.heap.size := (by omega); have zu5_0 : w1.heap.size + 1 < w5.heap.size + 1 + 1 := (by omega); have zt5_0 : ¬ w5.heap.size + 1 = w1.heap.size + 1 := (by omega); have zr5_0 : ¬ w1.heap.size + 1 = w5.heap.size + 1 := (by omega)
    have hzz5 := hg5.size
    have HO5 := hide (own_kept HO3.out hg5 (by omega))
    have HC5 := hide (HC3.out.grown hg5 (by omega) n1g)
    have H85 := hide (And.intro (cell_grown hg5 n2g H83.out.1) ((gfroz hg5 _ _ (by omega) n2g).trans H83.out.2))
    have H95 := hide (And.intro (cell_grown hg5 n3g H93.out.1) ((gfroz hg5 _ _ (by omega) n3g).trans H93.out.2))
    have HG5 := hide (gr_step HG3.out hg5)
    have HS5 := hide hs5
    clear hc5 hf5 hg5 hs5 HC3 H83 H93 HS3 HG3 HO3
    have HT5 := hide (fun j (hj : j < n2 * 3) => cell_grown HG5.out nb2g (HBc.out j hj).1)
    go_wp2
    generalize IntKind.i64.wrap ((x3 : Int) - 60) = ex at *
    generalize IntKind.i64.wrap ((x5 : Int) - 60) = ey at *
    go_loopw [10, 13] (fun v i wr => ∃ (q cp xo : Nat) (Lq : List Int), q ≤ n2 ∧ i = .int .i64 (q : Int) ∧ v = .slice (some ⟨xo, 0, none⟩) q cp ∧ Lq.length = q * 3 ∧ Hid (∀ i, i < q → -2000000000 ≤ Lq[i * 3]?.getD 0 ∧ Lq[i * 3]?.getD 0 ≤ 2000000000) ∧ Hid (wr.ownsRow wK.heap.size 68 3 v q (Lq.map (Value.int .i64))) ∧ Hid (Below wK.heap.size w5 wr)) (fun _ i _ => n2 - (intOf i).toNat)
    case atStart => exact ⟨0, 0, wK.heap.size, [], Nat.zero_le _, rfl, rfl, rfl, hide (fun i hi => absurd hi (Nat.not_lt_zero _)), HO5, hide (Below.refl _ _)⟩
    case round =>
     obtain ⟨q, cp, xo, Lq, hq, rfl, rfl, hlq, HMq, HOq, HBq⟩ := hrel
     have zr := HBq.out.size
     have k8 := cell_below HBq.out (show w1.heap.size + 1 < wK.heap.size by omega) H85.out.1
     have zr8 : w1.heap.size + 1 < wr.heap.size := by omega
     have zr2 : b2 < wr.heap.size := by omega
     by_cases hlt : q < n2
     ·have hq0 : (0 : Int) ≤ (q : Int) := by omega
      have hq1 : (q : Int) < (n2 : Int) := by omega
      have t0 := cell_below HBq.out (show b2 < wK.heap.size by omega) (HT5.out (q * 3) (by omega))
      have t1 := cell_below HBq.out (show b2 < wK.heap.size by omega) (HT5.out (q * 3 + 1) (by omega))
      have t2 := cell_below HBq.out (show b2 < wK.heap.size by omega) (HT5.out (q * 3 + 2) (by omega))
      have hMt := HTM.out q hlt
      generalize Lt[q * 3]?.getD 0 = T0 at *
      generalize Lt[q * 3 + 1]?.getD 0 = U0 at *
      generalize Lt[q * 3 + 2]?.getD 0 = V0 at *
      have HMt := hide hMt
      clear hMt
      go_wp2_with (at_builtin; refine wpList_append_lies _ rfl _ _ 43 rfl wK.heap.size 68 i0 _ 3 24 Tryz.underlying43 Hi.out Hz.out.1 Hz.out.2.1 Hz.out.2.2 rfl (by decide) _ _ _ rfl ((HOq.out.alloc _).alloc _) ⟨wr.heap.size + 1, 0, none⟩ 1 1 _ rfl rfl new3b (one3 _ _ _) (by decide) (by unfold maxLen; omega) (by omega) (by simp; omega) (wr.heap.size + 1 + 1) (by simp) ?_)
      intro g' cap' wA hown' hgr hat hlt'
      obtain ⟨X', Y', hown2⟩ : ∃ X' Y' : Int, wA.ownsRow wK.heap.size 68 3 (.slice (some ⟨g', 0, none⟩) (q + 1) cap') (q + 1) ((Lq ++ [T0, X', Y']).map (Value.int .i64)) := ⟨_, _, by rw [List.map_append]; exact hown'⟩
      have hb := (show Below wK.heap.size wr _ from Below.alloc (Below.alloc (Below.refl _ _) (by omega) _) (by simp; omega) _).trans (own_grown ((HOq.out.alloc _).alloc _) (by simp; omega) hgr)
      have HBA := hide (HBq.out.trans hb)
      have HOA := hide hown2
      have HMA := hide (tl_app (a := X') (b := Y') hlq HMq.out (T := T0) HMt.out)
      have hlA : (Lq ++ [T0, X', Y']).length = (q + 1) * 3 := by simp; omega
      generalize Lq ++ [T0, X', Y'] = LA at *
      clear hown' hown2 hgr hat hlt' hb HMt t0 t1 t2 HOq HMq HBq k8
      go_wp2
      go_roundw
      case rel => exact ⟨q + 1, cap', g', LA, by omega, by go_num, rfl, hlA, HMA, HOA, HBA⟩
      case measure => simp [intOf] <;> omega
     ·obtain rfl : n2 = q := by omega
      obtain ⟨so', cp', e9', hcap, ho⟩ := ownI_of_row (c := 3) hlq HMq.out HOq.out
      injection e9' with e91 _ e93
      subst e91
      subst e93
      have HOr := hide ho
      have hbq := HBq.out
      have k9 := cell_below hbq (show w1.heap.size + 1 + 1 < wK.heap.size by omega) H95.out.1
      have f9 := ((bcell hbq).2 _ _ (show w1.heap.size + 1 + 1 < wK.heap.size by omega)).trans H95.out.2
      have f8 := ((bcell hbq).2 _ _ (show w1.heap.size + 1 < wK.heap.size by omega)).trans H85.out.2
      have zr9 : w1.heap.size + 1 + 1 < wr.heap.size := by omega
      clear ho HMq HOq
      go_wp2_with fail
      go_meet
      have HP : Spot (w1.heap.size + 1 + 1) wr (wr.setCell ⟨w1.heap.size + 1 + 1, 0, none⟩ (.slice (some ⟨xo, 0, none⟩) n2 cp)) := (Spot.refl _ _).set
      exact ⟨some ⟨xo, 0, none⟩, n2, cp, Lq, by omega, hcap, hide ((HC5.out.below hbq (by omega)).far (by omega)), hide ⟨(HP.cell (by omega)).trans k8, (HP.froz' _ _).trans f8⟩, hide ⟨cell_same k9, (World.frozen?_setCell _ _ _ _).trans f9⟩, hide ((HOr.out.spot HP (by omega)).mono (Int.le_refl _) (by omega)), hide (HP.src (by omega) (Src.keepB (hbq.mono (by omega)) HS5.out)), hide (HP.grow (by omega) (gr_belowB HG5.out (hbq.mono (by omega)))), by rw [HP.size]; omega⟩
  case rest =>
   clear HC H8 H9 HS HG
   obtain ⟨so3, n3, cap3, Lu, hn3, hc3, HC, H8, H9, HU, HS, HG, zc3⟩ := hcut
   obtain ⟨c0, c1, c2, c3, c4, c5, c6, c7, c8, f0, f1, f2, f3, f4, f5, f6, f7, f8⟩ := HC.out
   obtain ⟨m0, m1⟩ := H8.out
   obtain ⟨m2, m3⟩ := H9.out
   have hra := mine_grow HRa.out HG.out (by omega) nz0
   have hrb := mine_grow HRb.out HG.out (by omega) nz2
   have hrc := mine_grow HRc.out HG.out (by omega) nz3
   obtain ⟨v0, cy0, fy0⟩ := hra.cells 0 (by decide)
   obtain ⟨v1, cy1, fy1⟩ := hra.cells 1 (by decide)
   obtain ⟨v2, cy2, fy2⟩ := hra.cells 2 (by decide)
   obtain ⟨v3, cy3, fy3⟩ := hra.cells 3 (by decide)
   obtain ⟨v4, cy4, fy4⟩ := hra.cells 4 (by decide)
   obtain ⟨v5, cy5, fy5⟩ := hra.cells 5 (by decide)
   obtain ⟨v6, cy6, fy6⟩ := hra.cells 6 (by decide)
   obtain ⟨v7, cy7, fy7⟩ := hra.cells 7 (by decide)
   obtain ⟨v8, cy8, fy8⟩ := hra.cells 8 (by decide)
   obtain ⟨vt, cyt, fyt⟩ := hrb.cells 0 (by decide)
   obtain ⟨vu, cyu, fyu⟩ := hrc.cells 0 (by decide)
   have hgr := gr_step HG1.out HG.out
   have hsr := HS.out
   have HOc := hide (HO1.out.grown HG.out (by omega))
   have HTc := hide (HT1.out.grown HG.out (by omega))
   clear hra hrb hrc
   have nn0 : ¬ w1.heap.size = w.heap.size := by omega
   have nn1 : ¬ w1.heap.size = w.heap.size + 1 := by omega
   have nn2 : ¬ w1.heap.size = w.heap.size + 1 + 1 := by omega
   have nn3 : ¬ w1.heap.size + 1 = w.heap.size := by omega
   have nn4 : ¬ w1.heap.size + 1 = w.heap.size + 1 := by omega
   have nn5 : ¬ w1.heap.size + 1 = w.heap.size + 1 + 1 := by omega
   have nn6 : ¬ w1.heap.size + 1 + 1 = w.heap.size := by omega
   have nn7 : ¬ w1.heap.size + 1 + 1 = w.heap.size + 1 := by omega
   have nn8 : ¬ w1.heap.size + 1 + 1 = w.heap.size + 1 + 1 := by omega
   have nn9 : ¬ w.heap.size = w1.heap.size := by omega
   have nn10 : ¬ w.heap.size + 1 = w1.heap.size := by omega
   have nn11 : ¬ w.heap.size + 1 + 1 = w1.heap.size := by omega
   have nn12 : ¬ w.heap.size = w1.heap.size + 1 := by omega
   have nn13 : ¬ w.heap.size + 1 = w1.heap.size + 1 := by omega
   have nn14 : ¬ w.heap.size + 1 + 1 = w1.heap.size + 1 := by omega
   have nn15 : ¬ w.heap.size = w1.heap.size + 1 + 1 := by omega
   have nn16 : ¬ w.heap.size + 1 = w1.heap.size + 1 + 1 := by omega
   have nn17 : ¬ w.heap.size + 1 + 1 = w1.heap.size + 1 + 1 := by omega
   go_upto_region 14 with fail
   go_region
   all_goals
    go_wp2
    simp [bodyPost, results, Tryz.results13, go_sem, *]
    exact ⟨⟨_, _, _, _, _, _, _, _, so, n, cap, N, X, Y, S, Z, k, some ⟨b2, 0, none⟩, n2, cap2, Lt, so3, n3, cap3, Lu, rfl, q1, q2, by refine OwnM.mono (B := w.heap.size + 1 + 1 + 1) ?_ (by omega); (repeat (first | with_reducible refine OwnM.far ?_ (by omega) | with_reducible refine OwnM.drew' ?_)); exact HOc.out, by omega, qe, by refine OwnI.mono (M := 2000000000) (B := w.heap.size + 1 + 1 + 1) ?_ (Int.le_refl _) (by omega); (repeat (first | with_reducible refine OwnI.far ?_ (by omega) | with_reducible refine OwnI.drew' ?_)); exact HTc.out, hn3, hc3, by refine OwnI.mono (M := 2000000000) (B := w.heap.size + 1 + 1 + 1) ?_ (Int.le_refl _) (by omega); (repeat (first | with_reducible refine OwnI.far ?_ (by omega) | with_reducible refine OwnI.drew' ?_)); exact HU.out⟩, gwz, swz⟩
end Go.Proofs.YthlnpcneicmblaaGreatDoor
/- Walks: what laws over a course, a mark and two tracks begin with. -/
namespace Go.Proofs.YthlnpcneicmblaaGreatDoor
open Go.RowKit

end Go.Proofs.YthlnpcneicmblaaGreatDoor
