/- Walks: tracks are drawn that often sail a course. -/
import Derived.Test.YtgcdgdnmcdffoaaGreatDoorXn
import Derived.Lib.Walk
import Derived.Test.YtgcdgdnmcdffoaaGreatDoorDb
import Derived.Test.YtgcdgdnmcdffoaaGreatDoorCz
namespace Go.Proofs.YtgcdgdnmcdffoaaGreatDoor
open Go.RowKit

theorem sq_nn (x : Int) : 0 ≤ x * x := by
 by_cases e : 0 ≤ x
 ·exact Int.mul_nonneg e e
 ·exact Int.mul_nonneg_of_nonpos_of_nonpos (by omega) (by omega)
theorem Sm_of {x : Int} (h1 : -1000000 ≤ x) (h2 : x ≤ 1000000) : Sm x := ⟨by omega, by omega⟩
theorem ln_last2 (ax ay bx bY cx cy dx dy : Int) (_ : Option Addr) (n _ : Nat) (_ : Nat → ByteArray) (X Y S Z : Nat → Int) (g2 : isSg cx cy dx dy = true) : isSg (lnA ax ay bx bY cx cy dx dy n X Y S Z (n + 1)) (lnB ax ay bx bY cx cy dx dy n X Y S Z (n + 1)) (lnC ax ay bx bY cx cy dx dy n X Y S Z (n + 1)) (lnD ax ay bx bY cx cy dx dy n X Y S Z (n + 1)) = true := by
 have e1 : ¬ n + 1 = 0 := by omega
 have e2 : ¬ n + 1 ≤ n := by omega
 simp only [lnA, lnB, lnC, lnD, e1, e2, ↓reduceIte]
 exact g2
theorem own_lines2 {w : World} {B' : Nat} {e : TypeId} {g cp m : Nat} {A B C D : Nat → Int} (h : w.ownsRow B' e 4 (.slice (some ⟨g, 0, none⟩) m cp) m (lnWs A B C D m)) : RowAt w (some ⟨g, 0, none⟩) m 4 (v4 A B C D) := fun i hi => ⟨g, 0, rfl, fun j hj => by
 have k : ∀ u, (lnW A B C D i)[j]? = some u → w.cell? ⟨g, 0 + i * 4 + j, none⟩ = some u := fun u hu => by
  have := h.cells (g := g) rfl (i * 4 + j) u (by rw [lnWs_at A B C D m i j hi hj]; exact hu)
  rw [Addr.add_lit, Nat.zero_add] at this
  rwa [Nat.zero_add]
 rcases (by omega : j = 0 ∨ j = 1 ∨ j = 2 ∨ j = 3) with rfl | rfl | rfl | rfl <;> exact k _ rfl⟩
theorem row4_on {w : World} {g m : Nat} {A B C D : Nat → Int} (h : RowAt w (some ⟨g, 0, none⟩) m 4 (v4 A B C D)) (i : Nat) (hi : i < m) : w.cell? ⟨g, i * 4, none⟩ = some (.int .i64 (A i)) ∧ w.cell? ⟨g, i * 4 + 1, none⟩ = some (.int .i64 (B i)) ∧ w.cell? ⟨g, i * 4 + 2, none⟩ = some (.int .i64 (C i)) ∧ w.cell? ⟨g, i * 4 + 3, none⟩ = some (.int .i64 (D i)) := by
 obtain ⟨b', o', e, k⟩ := h i hi
 simp only [Option.some.injEq, Addr.mk.injEq] at e
 obtain ⟨rfl, rfl, _⟩ := e
 have k0 := k 0 (by decide)
 have k1 := k 1 (by decide)
 have k2 := k 2 (by decide)
 have k3 := k 3 (by decide)
 rw [Nat.zero_add] at k0 k1 k2 k3
 exact ⟨k0, k1, k2, k3⟩
theorem row_grown {w W : World} {b n c g : Nat} {V : Nat → Nat → Value} (h : RowAt w (some ⟨b, 0, none⟩) n c V) (hg : w.grownBy W (some g)) (hb : ¬ b = g) : RowAt W (some ⟨b, 0, none⟩) n c V := fun i hi => by
 obtain ⟨b', o', e, k⟩ := h i hi
 simp only [Option.some.injEq, Addr.mk.injEq] at e
 obtain ⟨rfl, rfl, _⟩ := e
 exact ⟨_, _, rfl, fun j hj => cell_grown hg hb (k j hj)⟩
set_option maxRecDepth 100000 in
set_option maxHeartbeats 16000000 in
theorem spec_l06DrawSail (ax ay bx bY cx cy dx dy : Int) (so : Option Addr) (n cap : Nat) (N : Nat → ByteArray) (X Y S Z : Nat → Int) (g : Nat) (w : World) (h : Src w g) (hrow : ∀ W, w.grownBy W (some g) → RowAt W so n 5 (v5 N X Y S Z)) (hn : n ≤ 1048576) :
 Calls Tryz.prog 61 #[.pointer (some ⟨g, 0, none⟩), .agg #[.int .i64 ax, .int .i64 ay, .int .i64 bx, .int .i64 bY, .int .i64 cx, .int .i64 cy, .int .i64 dx, .int .i64 dy, .slice so n cap]] w (TrC 2 20 40000 w g) := by
 have ng := Src.lt h
 have nz0 : ¬ w.heap.size = g := by omega
 have nz1 : ¬ g = w.heap.size := by omega
 have nz2 : ¬ w.heap.size + 1 = g := by omega
 have nz3 : ¬ w.heap.size + 1 + 1 = g := by omega
 obtain ⟨i0, hi, hz0, hz1, hz2⟩ := info_parts infoFix
 have Hi := hide hi
 have Hz := hide (And.intro hz0 (And.intro hz1 hz2))
 clear hi hz0 hz1 hz2
 have KI := hide (fun W (hg : w.grownBy W (some g)) => spec_IsCourse ax ay bx bY cx cy dx dy so n cap N X Y S Z W (hrow W hg) hn)
 have KL := hide (fun W (hg : w.grownBy W (some g)) (hv : (isCo ax ay bx bY cx cy dx dy n N X Y S Z) = true) => spec_l06Lines ax ay bx bY cx cy dx dy so n cap N X Y S Z W (hrow W hg) hv)
 clear hrow
 go_enter Tryz.func61, Tryz.ntmps61
 go_wp2_with fail; (with_reducible refine (spec_l01Next g 300 _ swz (by decide)).mono ?_); rintro e w1 ⟨⟨x1, rfl, hx1⟩, hg1, hs1⟩; have hc1 := gcell hg1; have hf1 := gfroz hg1; have lg1 := Src.lt hs1; have nga1 : ¬ w1.heap.size = g := (by omega); have ngb1 : ¬ g = w1.heap.size := (by omega); have hzs1 := hg1.size; (try simp at hzs1); have zx1_0 : w.heap.size < w1.heap.size := (by first | omega | (simp at hzs1; omega)); have zy1_0 : w.heap.size < w1.heap.size + 1 := (by omega); have zw1_0 : ¬ w1.heap.size = w.heap.size := (by omega); have zv1_0 : ¬ w.heap.size = w1.heap.size := (by omega); have zu1_0 : w.heap.size < w1.heap.size + 1 + 1 := (by omega); have zt1_0 : ¬ w1.heap.size + 1 = w.heap.size := (by omega); have zr1_0 : ¬ w.heap.size = w1.heap.size + 1 := (by omega); have zx1_1 : w.heap.size + 1 < w1.heap.size := (by first | omega | (simp at hzs1; omega)); have zy1_1 : w.heap.size + 1 < w1.heap.size + 1 := (by omega); have zw1_1 : ¬ w1.heap.size = w.heap.size + 1 := (by omega); have zv1_1 : ¬ w.heap.size + 1 = w1.heap.size := (by omega); have zu1_1 : w.heap.size + 1 < w1.heap.size + 1 + 1 := (by omega); have zt1_1 : ¬ w1.heap.size + 1 = w.heap.size + 1 := (by omega); have zr1_1 : ¬ w.heap.size + 1 = w1.heap.size + 1 := (by omega); have zx1_2 : w.heap.size + 1 + 1 < w1.heap.size := (by first | omega | (simp at hzs1; omega)); have zy1_2 : w.heap.size + 1 + 1 < w1.heap.size + 1 := (by omega); have zw1_2 : ¬ w1.heap.size = w.heap.size + 1 + 1 := (by omega); have zv1_2 : ¬ w.heap.size + 1 + 1 = w1.heap.size := (by omega); have zu1_2 : w.heap.size + 1 + 1 < w1.heap.size + 1 + 1 := (by omega); have zt1_2 : ¬ w1.heap.size + 1 = w.heap.size + 1 + 1 := (by omega); have zr1_2 : ¬ w.heap.size + 1 + 1 = w1.heap.size + 1 := (by omega)
 obtain ⟨p1, p2⟩ := hx1 (by decide)
 clear hx1
 have hzz1 := hg1.size
 simp only [size_al] at hzz1
 have zw0 : w.heap.size < w1.heap.size := by omega
 have zw1 : w.heap.size + 1 < w1.heap.size := by omega
 have zw2 : w.heap.size + 1 + 1 < w1.heap.size := by omega
 have HX := hide (show CoBx w1 w.heap.size ax ay bx bY cx cy dx dy so n cap from ⟨by go_simp, by go_simp, by go_simp, by go_simp, by go_simp, by go_simp, by go_simp, by go_simp, by go_simp⟩)
 have r0 : w1.cell? ⟨w.heap.size + 1, 0, none⟩ = some (.slice none 0 0) := by go_simp
 have r1 : w1.frozen? ⟨w.heap.size + 1, 0, none⟩ = false := by go_simp
 have HR := hide (And.intro r0 r1)
 have hm0 := own_kept (World.ownsRow_made (base := w.heap.size + 1 + 1) (e := 50) (size := 3) ((w.alloc (Obj.cells #[.int .i64 ax, .int .i64 ay, .int .i64 bx, .int .i64 bY, .int .i64 cx, .int .i64 cy, .int .i64 dx, .int .i64 dy, .slice so n cap] 30)).alloc (Obj.cells #[.slice none 0 0] 33)) #[] 0 (by simp) (by decide) rfl) hg1 (by omega)
 simp only [size_al] at hm0
 have HO := hide hm0
 have HG := hide (show w.grownBy w1 (some g) from gwz)
 have HS := hide hs1
 clear hm0 hc1 hf1 hg1 r0 r1 hs1
 obtain ⟨q0, q1, q2, q3, q4, q5, q6, q7, q8⟩ := HX.out
 have KI9 := hide (fun (bb : Bool) (hb : (isCo ax ay bx bY cx cy dx dy n N X Y S Z) = bb) W hg => hb ▸ KI.out W hg)
 rcases b2 (isCo ax ay bx bY cx cy dx dy n N X Y S Z) with hco | hco
 ·have KI2 := hide (KI9.out false hco)
  clear KI KL KI9 hco
  go_wp2_with fail; (with_reducible refine (KI2.out _ HG.out).mono ?_); rintro e w2 ⟨rfl, hb2⟩
  have z2 := hb2.size
  have HRf := hide (And.intro (cell_later hb2 HR.out.1) (frozen_later hb2 HR.out.1 HR.out.2))
  have HGf := hide (gr_belowB HG.out (hb2.mono (by omega)))
  have HSf := hide (Src.keep hb2 HS.out)
  have zf1 : w.heap.size + 1 < w2.heap.size := by omega
  clear hb2 HR HG HS HO HX q0 q1 q2 q3 q4 q5 q6 q7 q8
  obtain ⟨r0, r1⟩ := HRf.out
  have hgF := HGf.out
  have hsF := HSf.out
  have lgF := Src.lt hsF
  go_wp2_with fail; (with_reducible refine (spec_l03Draw g _ HSf.out).mono ?_); rintro e w7 ⟨⟨so7, n7, cap7, L7, rfl, q71, q72, q73, ho⟩, hg7, hs7⟩; have hc7 := gcell hg7; have hf7 := gfroz hg7; have lg7 := Src.lt hs7; have nga7 : ¬ w7.heap.size = g := (by omega); have ngb7 : ¬ g = w7.heap.size := (by omega); have hzs7 := hg7.size; (try simp at hzs7); have zx7_0 : w.heap.size + 1 < w7.heap.size := (by first | omega | (simp at hzs7; omega)); have zy7_0 : w.heap.size + 1 < w7.heap.size + 1 := (by omega); have zw7_0 : ¬ w7.heap.size = w.heap.size + 1 := (by omega); have zv7_0 : ¬ w.heap.size + 1 = w7.heap.size := (by omega); have zu7_0 : w.heap.size + 1 < w7.heap.size + 1 + 1 := (by omega); have zt7_0 : ¬ w7.heap.size + 1 = w.heap.size + 1 := (by omega); have zr7_0 : ¬ w.heap.size + 1 = w7.heap.size + 1 := (by omega)
  have Ho := hide ho
  have z7 := hg7.size
  clear ho
  go_wp2
  simp [bodyPost, results, Tryz.results61, go_sem, *]
  exact ⟨⟨_, _, _, _, rfl, by omega, by omega, q73, (OwnI.far Ho.out (by omega)).mono (by omega) (by omega)⟩, gwz, swz⟩
 have KI2 := hide (KI9.out true hco)
 have KL2 := hide (fun W hg => KL.out W hg hco)
 have hf := ln_last2 ax ay bx bY cx cy dx dy so n cap N X Y S Z (isCo_t hco).2.1
 have hn8 := (isCo_t hco).2.2.2.1
 clear KI KL KI9 hco
 generalize lnA ax ay bx bY cx cy dx dy n X Y S Z = A9 at *
 generalize lnB ax ay bx bY cx cy dx dy n X Y S Z = B9 at *
 generalize lnC ax ay bx bY cx cy dx dy n X Y S Z = C9 at *
 generalize lnD ax ay bx bY cx cy dx dy n X Y S Z = D9 at *
 go_wp2_with fail; (with_reducible refine (KI2.out _ HG.out).mono ?_); rintro e w2 ⟨rfl, hb2⟩
 have z2 := hb2.size
 have HX2 := hide (CoBx.later hb2 HX.out)
 have HO2 := hide (own_later hb2 HO.out)
 have HR2 := hide (And.intro (cell_later hb2 HR.out.1) (frozen_later hb2 HR.out.1 HR.out.2))
 have HG2 := hide (gr_belowB HG.out (hb2.mono (by omega)))
 have HS2 := hide (Src.keep hb2 HS.out)
 have zb0 : w.heap.size < w2.heap.size := by omega
 clear hb2 HR HG HS HO HX q0 q1 q2 q3 q4 q5 q6 q7 q8 KI2
 obtain ⟨q0, q1, q2, q3, q4, q5, q6, q7, q8⟩ := HX2.out
 go_wp2_with fail; (with_reducible refine (KL2.out _ HG2.out).mono ?_); rintro e wL ⟨⟨hl, gl, cpl, rfl, hown⟩ | ⟨hl, rfl⟩, hbL⟩
 rotate_left
 ·have zL := hbL.size
  have HRf := hide (And.intro (cell_later hbL HR2.out.1) (frozen_later hbL HR2.out.1 HR2.out.2))
  have HGf := hide (gr_belowB HG2.out (hbL.mono (by omega)))
  have HSf := hide (Src.keep hbL HS2.out)
  have zf1 : w.heap.size + 1 < wL.heap.size := by omega
  clear hbL HR2 HG2 HS2 HO2 HX2 q0 q1 q2 q3 q4 q5 q6 q7 q8
  obtain ⟨r0, r1⟩ := HRf.out
  have hgF := HGf.out
  have hsF := HSf.out
  have lgF := Src.lt hsF
  go_wp2_with fail; (with_reducible refine (spec_l03Draw g _ HSf.out).mono ?_); rintro e w7 ⟨⟨so7, n7, cap7, L7, rfl, q71, q72, q73, ho⟩, hg7, hs7⟩; have hc7 := gcell hg7; have hf7 := gfroz hg7; have lg7 := Src.lt hs7; have nga7 : ¬ w7.heap.size = g := (by omega); have ngb7 : ¬ g = w7.heap.size := (by omega); have hzs7 := hg7.size; (try simp at hzs7); have zx7_0 : w.heap.size + 1 < w7.heap.size := (by first | omega | (simp at hzs7; omega)); have zy7_0 : w.heap.size + 1 < w7.heap.size + 1 := (by omega); have zw7_0 : ¬ w7.heap.size = w.heap.size + 1 := (by omega); have zv7_0 : ¬ w.heap.size + 1 = w7.heap.size := (by omega); have zu7_0 : w.heap.size + 1 < w7.heap.size + 1 + 1 := (by omega); have zt7_0 : ¬ w7.heap.size + 1 = w.heap.size + 1 := (by omega); have zr7_0 : ¬ w.heap.size + 1 = w7.heap.size + 1 := (by omega)
  have Ho := hide ho
  have z7 := hg7.size
  clear ho
  go_wp2
  simp [bodyPost, results, Tryz.results61, go_sem, *]
  exact ⟨⟨_, _, _, _, rfl, by omega, by omega, q73, (OwnI.far Ho.out (by omega)).mono (by omega) (by omega)⟩, gwz, swz⟩
 have zL := hbL.size
 have HOL := hide (own_later hbL HO2.out)
 have HRL := hide (And.intro (cell_later hbL HR2.out.1) (frozen_later hbL HR2.out.1 HR2.out.2))
 have HGL := hide (gr_belowB HG2.out (hbL.mono (by omega)))
 have HSL := hide (Src.keep hbL HS2.out)
 have hgl := hown.lt gl rfl
 have hgl1 := hgl.1
 have hgl2 := hgl.2
 have HLn := hide (own_lines2 hown)
 have Hls := hide (show ∀ i, i < n + 2 → isSg (A9 i) (B9 i) (C9 i) (D9 i) = true from fun i hi => by
  rcases Nat.lt_or_ge i (n + 1) with q | q
  ·exact lnsOk_t hl i q
  ·obtain rfl : i = n + 1 := by omega
   exact hf)
 have lgL := Src.lt HSL.out
 have ngl : ¬ gl = g := by have := Src.lt HS2.out; omega
 have zL0 : w.heap.size < wL.heap.size := by omega
 clear hbL hown HR2 HG2 HS2 HO2 HX2 q0 q1 q2 q3 q4 q5 q6 q7 q8 hl hf hgl KL2
 go_wp2
 go_loopw [5, 6, 9] (fun v t i wr => ∃ (k q xo cp : Nat) (T : Int) (Lf : List Int), t = .int .i64 T ∧ i = .int .i64 (k : Int) ∧ k ≤ n + 2 ∧ q ≤ 2 * k ∧ Lf.length = q * 3 ∧ 0 ≤ T ∧ T ≤ 300 + 901 * (q : Int) ∧ Hid (∀ i, i < q → -40000 ≤ Lf[i * 3]?.getD 0 ∧ Lf[i * 3]?.getD 0 ≤ 40000) ∧ Hid (wr.ownsRow (w.heap.size + 1 + 1) 50 3 v q (Lf.map (Value.int .i64))) ∧ v = .slice (some ⟨xo, 0, none⟩) q cp ∧ ¬ xo = gl ∧ Hid (Src wr g) ∧ Hid (wr.cell? ⟨w.heap.size + 1, 0, none⟩ = some (.slice none 0 0) ∧ wr.frozen? ⟨w.heap.size + 1, 0, none⟩ = false) ∧ Hid (w.grownBy wr (some g)) ∧ Hid (RowAt wr (some ⟨gl, 0, none⟩) (n + 2) 4 (v4 A9 B9 C9 D9)) ∧ wL.heap.size ≤ wr.heap.size) (fun _ _ i _ => (n + 2) - (intOf i).toNat)
 case atStart => exact ⟨0, 0, w.heap.size + 1 + 1, 0, x1, [], rfl, rfl, by omega, by omega, rfl, by omega, by simp; omega, hide (fun i hi => absurd hi (by omega)), HOL, rfl, by omega, HSL, HRL, HGL, HLn, Nat.le_refl _⟩
 case round =>
  clear HOL HSL HRL HGL HLn lgL
  obtain ⟨k, q, xo, cp5, T, Lf, rfl, rfl, hk, hq, hl, hT0, hT1, HM, HO, rfl, hxo, HS, HR, HG, HLn, hsz⟩ := hrel
  have lgr := Src.lt HS.out
  have zr0 : w.heap.size < wr.heap.size := by omega
  have zr1 : w.heap.size + 1 < wr.heap.size := by omega
  have zr2 : gl < wr.heap.size := by omega
  by_cases hlt : k < n + 2
  ·have hk0 : (0 : Int) ≤ (k : Int) := by omega
   have hk1 : (k : Int) < (n : Int) + 2 := by omega
   have hk2 : k < n + 2 := hlt
   go_wp2_with fail; (with_reducible refine (spec_l01Next g 14 _ HS.out (by decide)).mono ?_); rintro e w3 ⟨⟨x3, rfl, hx3⟩, hg3, hs3⟩; have hc3 := gcell hg3; have hf3 := gfroz hg3; have lg3 := Src.lt hs3; have nga3 : ¬ w3.heap.size = g := (by omega); have ngb3 : ¬ g = w3.heap.size := (by omega); have hzs3 := hg3.size; (try simp at hzs3); have zx3_0 : w.heap.size < w3.heap.size := (by first | omega | (simp at hzs3; omega)); have zy3_0 : w.heap.size < w3.heap.size + 1 := (by omega); have zw3_0 : ¬ w3.heap.size = w.heap.size := (by omega); have zv3_0 : ¬ w.heap.size = w3.heap.size := (by omega); have zu3_0 : w.heap.size < w3.heap.size + 1 + 1 := (by omega); have zt3_0 : ¬ w3.heap.size + 1 = w.heap.size := (by omega); have zr3_0 : ¬ w.heap.size = w3.heap.size + 1 := (by omega); have zx3_1 : w.heap.size + 1 < w3.heap.size := (by first | omega | (simp at hzs3; omega)); have zy3_1 : w.heap.size + 1 < w3.heap.size + 1 := (by omega); have zw3_1 : ¬ w3.heap.size = w.heap.size + 1 := (by omega); have zv3_1 : ¬ w.heap.size + 1 = w3.heap.size := (by omega); have zu3_1 : w.heap.size + 1 < w3.heap.size + 1 + 1 := (by omega); have zt3_1 : ¬ w3.heap.size + 1 = w.heap.size + 1 := (by omega); have zr3_1 : ¬ w.heap.size + 1 = w3.heap.size + 1 := (by omega); have zx3_2 : gl < w3.heap.size := (by first | omega | (simp at hzs3; omega)); have zy3_2 : gl < w3.heap.size + 1 := (by omega); have zw3_2 : ¬ w3.heap.size = gl := (by omega); have zv3_2 : ¬ gl = w3.heap.size := (by omega); have zu3_2 : gl < w3.heap.size + 1 + 1 := (by omega); have zt3_2 : ¬ w3.heap.size + 1 = gl := (by omega); have zr3_2 : ¬ gl = w3.heap.size + 1 := (by omega)
   clear hx3
   have z3 := hg3.size
   have HO3 := hide (own_kept HO.out hg3 (by omega))
   have HR3 := hide (And.intro (cell_grown hg3 nz2 HR.out.1) ((gfroz hg3 _ _ zr1 nz2).trans HR.out.2))
   have HG3 := hide (gr_step HG.out hg3)
   have HL3 := hide (row_grown HLn.out hg3 ngl)
   have HS3 := hide hs3
   clear hc3 hf3 hg3 hs3 HO HR HG HS HLn
   by_cases h3 : x3 = 0
   ·subst h3
    go_wp2
    go_roundw
    case rel => exact ⟨k + 1, q, xo, cp5, T, Lf, rfl, by go_num, by omega, by omega, hl, hT0, hT1, HM, HO3, rfl, hxo, HS3, HR3, HG3, HL3, by omega⟩
    case measure => simp [intOf] <;> omega
   have h3b : (x3 == 0) = false := beq_eq_false_iff_ne.2 h3
   obtain ⟨l0, l1, l2, l3⟩ := row4_on HL3.out k hlt
   have hsg := Hls.out k hlt
   generalize A9 k = la at *
   generalize B9 k = lb at *
   generalize C9 k = lc at *
   generalize D9 k = ld at *
   have KM := hide (fun W => spec_l04Middle la lb lc ld hsg W)
   obtain ⟨g1, g2, _⟩ := isSg_t hsg
   obtain ⟨i1, i2, i3, i4⟩ := isPt_t g1
   obtain ⟨i5, i6, i7, i8⟩ := isPt_t g2
   have KN := hide (fun W => spec_l01Minus lc ld la lb (Sm_of i5 i6) (Sm_of i7 i8) (Sm_of i1 i2) (Sm_of i3 i4) W)
   obtain ⟨ex, hex, e1, e2⟩ : ∃ ex : Int, ex = lc - la ∧ -2000000 ≤ ex ∧ ex ≤ 2000000 := ⟨_, rfl, by omega, by omega⟩
   obtain ⟨ey, hey, e3, e4⟩ : ∃ ey : Int, ey = ld - lb ∧ -2000000 ≤ ey ∧ ey ≤ 2000000 := ⟨_, rfl, by omega, by omega⟩
   rw [← hex, ← hey] at KN
   have d1 := bd_mul 2000000 2000000 4000000000000 e1 e2 e1 e2 (by decide) (by decide)
   have d2 := bd_mul 2000000 2000000 4000000000000 e3 e4 e3 e4 (by decide) (by decide)
   have KD := hide (fun W => spec_l01Dot ex ey ex ey d1 d2 W)
   have s1 := mul_bd' 2000000 2000000 4000000000000 e1 e2 e1 e2 (by decide)
   have s2 := mul_bd' 2000000 2000000 4000000000000 e3 e4 e3 e4 (by decide)
   have n1 := sq_nn ex
   have n2 := sq_nn ey
   obtain ⟨sq9, hsq, t1, t2⟩ : ∃ s : Int, s = ex * ex + ey * ey ∧ 0 ≤ s ∧ s ≤ 1000000000000000000 := ⟨_, rfl, by omega, by omega⟩
   rw [← hsq] at KD
   have KR := hide (fun W => spec_l01Root sq9 t1 t2 W)
   generalize rt sq9 = rr at *
   clear hex hey hsq d1 d2 s1 s2 n1 n2 t1 t2 g1 g2 i1 i2 i3 i4 i5 i6 i7 i8 hsg
   have hxw := (HO3.out.lt xo rfl).2
   go_wp2_with fail; (with_reducible refine (KM.out _).mono ?_); rintro e w4 ⟨rfl, hb4⟩
   have z4 := hb4.size
   simp only [size_al] at z4
   have y34 : w3.heap.size < w4.heap.size := by omega
   have v0 : w4.cell? ⟨w3.heap.size, 0, none⟩ = some (.int .i64 la) := cell_later hb4 (by go_simp)
   have v1 : w4.cell? ⟨w3.heap.size, 1, none⟩ = some (.int .i64 lb) := cell_later hb4 (by go_simp)
   have v2 : w4.cell? ⟨w3.heap.size, 2, none⟩ = some (.int .i64 lc) := cell_later hb4 (by go_simp)
   have v3 : w4.cell? ⟨w3.heap.size, 3, none⟩ = some (.int .i64 ld) := cell_later hb4 (by go_simp)
   have HB4 := hide (show Below w3.heap.size w3 w4 from bwz)
   generalize (la + lc) / 2 = pX at *
   generalize (lb + ld) / 2 = pY at *
   clear hb4 l0 l1 l2 l3
   go_wp2_with fail; (with_reducible refine (KN.out _).mono ?_); rintro e w5 ⟨rfl, hb5⟩
   have z5 := hb5.size
   simp only [size_al] at z5
   have y45 : w4.heap.size < w5.heap.size := by omega
   have y35 : w3.heap.size < w5.heap.size := by omega
   have c0 : w5.cell? ⟨w4.heap.size, 0, none⟩ = some (.int .i64 pX) := cell_later hb5 (by go_simp)
   have c1 : w5.cell? ⟨w4.heap.size, 1, none⟩ = some (.int .i64 pY) := cell_later hb5 (by go_simp)
   have HB5 := hide (bstep (Below.alloc HB4.out (by omega) _) hb5)
   clear hb5 v0 v1 v2 v3 HB4
   go_wp2_with fail; (with_reducible refine (KD.out _).mono ?_); rintro e w6 ⟨rfl, hb6⟩
   have z6 := hb6.size
   simp only [size_al] at z6
   have y56 : w5.heap.size < w6.heap.size := by omega
   have y46 : w4.heap.size < w6.heap.size := by omega
   have y36 : w3.heap.size < w6.heap.size := by omega
   have k0 : w6.cell? ⟨w4.heap.size, 0, none⟩ = some (.int .i64 pX) := cell_later hb6 (cell_alloc c0)
   have k1 : w6.cell? ⟨w4.heap.size, 1, none⟩ = some (.int .i64 pY) := cell_later hb6 (cell_alloc c1)
   have k2 : w6.cell? ⟨w5.heap.size, 0, none⟩ = some (.int .i64 ex) := cell_later hb6 (by go_simp)
   have k3 : w6.cell? ⟨w5.heap.size, 1, none⟩ = some (.int .i64 ey) := cell_later hb6 (by go_simp)
   have HB6 := hide (bstep (Below.alloc HB5.out (by omega) _) hb6)
   have HS6 := hide (Src.keep HB6.out HS3.out)
   have HO6 := hide (own_later HB6.out HO3.out)
   have HR6 := hide (And.intro (cell_later HB6.out HR3.out.1) (frozen_later HB6.out HR3.out.1 HR3.out.2))
   have HG6 := hide (gr_belowB HG3.out (HB6.out.mono (by omega)))
   have HL6 := hide (RowAt.later HB6.out HL3.out)
   have lg6 := Src.lt HS6.out
   have n4g : ¬ w4.heap.size = g := by omega
   have n5g : ¬ w5.heap.size = g := by omega
   clear hb6 c0 c1 HB5 HB6 HS3 HO3 HR3 HG3 HL3 KM KN KD
   go_wp2_with fail; (with_reducible refine (KR.out _).mono ?_); rintro e w6' ⟨rfl, rfl⟩
   go_wp2_with fail; (with_reducible refine (spec_l01NextN g 30 30 _ HS6.out (by decide) (by decide) (by decide)).mono ?_); rintro e w8 ⟨⟨x8, rfl, hx8⟩, hg8, hs8⟩; have hc8 := gcell hg8; have hf8 := gfroz hg8; have lg8 := Src.lt hs8; have nga8 : ¬ w8.heap.size = g := (by omega); have ngb8 : ¬ g = w8.heap.size := (by omega); have hzs8 := hg8.size; (try simp at hzs8); have zx8_0 : w.heap.size < w8.heap.size := (by first | omega | (simp at hzs8; omega)); have zy8_0 : w.heap.size < w8.heap.size + 1 := (by omega); have zw8_0 : ¬ w8.heap.size = w.heap.size := (by omega); have zv8_0 : ¬ w.heap.size = w8.heap.size := (by omega); have zu8_0 : w.heap.size < w8.heap.size + 1 + 1 := (by omega); have zt8_0 : ¬ w8.heap.size + 1 = w.heap.size := (by omega); have zr8_0 : ¬ w.heap.size = w8.heap.size + 1 := (by omega); have zx8_1 : w.heap.size + 1 < w8.heap.size := (by first | omega | (simp at hzs8; omega)); have zy8_1 : w.heap.size + 1 < w8.heap.size + 1 := (by omega); have zw8_1 : ¬ w8.heap.size = w.heap.size + 1 := (by omega); have zv8_1 : ¬ w.heap.size + 1 = w8.heap.size := (by omega); have zu8_1 : w.heap.size + 1 < w8.heap.size + 1 + 1 := (by omega); have zt8_1 : ¬ w8.heap.size + 1 = w.heap.size + 1 := (by omega); have zr8_1 : ¬ w.heap.size + 1 = w8.heap.size + 1 := (by omega); have zx8_2 : gl < w8.heap.size := (by first | omega | (simp at hzs8; omega)); have zy8_2 : gl < w8.heap.size + 1 := (by omega); have zw8_2 : ¬ w8.heap.size = gl := (by omega); have zv8_2 : ¬ gl = w8.heap.size := (by omega); have zu8_2 : gl < w8.heap.size + 1 + 1 := (by omega); have zt8_2 : ¬ w8.heap.size + 1 = gl := (by omega); have zr8_2 : ¬ gl = w8.heap.size + 1 := (by omega); have zx8_3 : w4.heap.size < w8.heap.size := (by first | omega | (simp at hzs8; omega)); have zy8_3 : w4.heap.size < w8.heap.size + 1 := (by omega); have zw8_3 : ¬ w8.heap.size = w4.heap.size := (by omega); have zv8_3 : ¬ w4.heap.size = w8.heap.size := (by omega); have zu8_3 : w4.heap.size < w8.heap.size + 1 + 1 := (by omega); have zt8_3 : ¬ w8.heap.size + 1 = w4.heap.size := (by omega); have zr8_3 : ¬ w4.heap.size = w8.heap.size + 1 := (by omega); have zx8_4 : w5.heap.size < w8.heap.size := (by first | omega | (simp at hzs8; omega)); have zy8_4 : w5.heap.size < w8.heap.size + 1 := (by omega); have zw8_4 : ¬ w8.heap.size = w5.heap.size := (by omega); have zv8_4 : ¬ w5.heap.size = w8.heap.size := (by omega); have zu8_4 : w5.heap.size < w8.heap.size + 1 + 1 := (by omega); have zt8_4 : ¬ w8.heap.size + 1 = w5.heap.size := (by omega); have zr8_4 : ¬ w5.heap.size = w8.heap.size + 1 := (by omega)
   have z8 := hg8.size
   have HP := hide (show w8.cell? ⟨w4.heap.size, 0, none⟩ = some (.int .i64 pX) ∧ w8.cell? ⟨w4.heap.size, 1, none⟩ = some (.int .i64 pY) ∧ w8.cell? ⟨w5.heap.size, 0, none⟩ = some (.int .i64 ex) ∧ w8.cell? ⟨w5.heap.size, 1, none⟩ = some (.int .i64 ey) from ⟨cell_grown hg8 n4g k0, cell_grown hg8 n4g k1, cell_grown hg8 n5g k2, cell_grown hg8 n5g k3⟩)
   have zz1 : w.heap.size + 1 < w6.heap.size := by omega
   have HO8 := hide (own_kept HO6.out hg8 (by omega))
   have HR8 := hide (And.intro (cell_grown hg8 nz2 HR6.out.1) ((gfroz hg8 _ _ zz1 nz2).trans HR6.out.2))
   have HG8 := hide (gr_step HG6.out hg8)
   have HL8 := hide (row_grown HL6.out hg8 ngl)
   have HS8 := hide hs8
   have m1 : 1 ≤ max 1 rr := by omega
   generalize max 1 rr = mx at *
   have wwr : IntKind.i64.wrap (4 + (x8 : Int)) = 4 + (x8 : Int) := IntWalk.i64_in _ (by omega)
   have hww : 4 ≤ 4 + (x8 : Int) ∧ 4 + (x8 : Int) ≤ 34 := by omega
   have hszo : wL.heap.size ≤ w8.heap.size := by omega
   clear hc8 hf8 hg8 hs8 k0 k1 k2 k3 HO6 HR6 HG6 HL6 HS6 KR hsz
   go_wp2
   clear wwr
   generalize 4 + (x8 : Int) = ww at *
   obtain ⟨wo, rfl⟩ : ∃ x : World, x = wr := ⟨_, rfl⟩
   go_loopw [5, 6, 15] (fun v t sd wr => ∃ (s9 q9 xo cp : Nat) (T sv : Int) (Lf : List Int), s9 ≤ 2 ∧ sd = .int .i64 sv ∧ sv = 1 - 2 * (s9 : Int) ∧ q9 ≤ 2 * k + s9 ∧ t = .int .i64 T ∧ Lf.length = q9 * 3 ∧ 0 ≤ T ∧ T ≤ 300 + 901 * (q9 : Int) ∧ Hid (∀ i, i < q9 → -40000 ≤ Lf[i * 3]?.getD 0 ∧ Lf[i * 3]?.getD 0 ≤ 40000) ∧ Hid (wr.ownsRow (w.heap.size + 1 + 1) 50 3 v q9 (Lf.map (Value.int .i64))) ∧ v = .slice (some ⟨xo, 0, none⟩) q9 cp ∧ ¬ xo = gl ∧ ¬ xo = w4.heap.size ∧ ¬ xo = w5.heap.size ∧ Hid (Src wr g) ∧ Hid (wr.cell? ⟨w.heap.size + 1, 0, none⟩ = some (.slice none 0 0) ∧ wr.frozen? ⟨w.heap.size + 1, 0, none⟩ = false) ∧ Hid (w.grownBy wr (some g)) ∧ Hid (RowAt wr (some ⟨gl, 0, none⟩) (n + 2) 4 (v4 A9 B9 C9 D9)) ∧ Hid (wr.cell? ⟨w4.heap.size, 0, none⟩ = some (.int .i64 pX) ∧ wr.cell? ⟨w4.heap.size, 1, none⟩ = some (.int .i64 pY) ∧ wr.cell? ⟨w5.heap.size, 0, none⟩ = some (.int .i64 ex) ∧ wr.cell? ⟨w5.heap.size, 1, none⟩ = some (.int .i64 ey)) ∧ w8.heap.size ≤ wr.heap.size) (fun _ _ sd _ => (intOf sd + 3).toNat)
   case atStart => exact ⟨0, q, xo, cp5, T, 1, Lf, by omega, rfl, by omega, by omega, rfl, hl, hT0, hT1, HM, HO8, rfl, hxo, by omega, by omega, HS8, HR8, HG8, HL8, HP, Nat.le_refl _⟩
   case round =>
    clear HM HO8 HS8 HR8 HG8 HL8 HP hxo hxw hl hT0 hT1
    obtain ⟨s9, q9, xo, cp9, T, sv, Lf, hs9, rfl, hsv, hq9, rfl, hl, hT0, hT1, HM, HO, rfl, hxo, hx4, hx5, HS, HR, HG, HL, HP, hsz⟩ := hrel
    have Hsv := hide hsv
    have lgr := Src.lt HS.out
    have zr0 : w.heap.size < wr.heap.size := by omega
    have zr1 : w.heap.size + 1 < wr.heap.size := by omega
    have zr2 : gl < wr.heap.size := by omega
    have zr4 : w4.heap.size < wr.heap.size := by omega
    have zr5 : w5.heap.size < wr.heap.size := by omega
    have hxw := (HO.out.lt xo rfl).2
    by_cases hs1 : s9 ≤ 1
    ·have hge : -1 ≤ sv := by omega
     have hsv1 : sv ≤ 1 := by omega
     clear hsv
     obtain ⟨k0, k1, k2, k3⟩ := HP.out
     obtain ⟨b1, b2'⟩ := mul_bd' 2000000 34 68000000 e3 e4 (by omega) hww.2 (by decide)
     obtain ⟨b3', b4'⟩ := mul_bd' 2000000 34 68000000 e1 e2 (by omega) hww.2 (by decide)
     have wm1 : IntKind.i64.wrap (ey * ww) = ey * ww := IntWalk.i64_in _ (by omega)
     have wm2 : IntKind.i64.wrap (ex * ww) = ex * ww := IntWalk.i64_in _ (by omega)
     have hsr := HS.out
     have hgr0 := HG.out
     have KF1 := hide (fun W => spec_l01Floor (ey * ww) mx (by omega) (by omega) m1 W)
     have KF2 := hide (fun W => spec_l01Floor (ex * ww) mx (by omega) (by omega) m1 W)
     clear b1 b2' b3' b4'
     go_upto_region 20 with fail
     have HwE : World.grownBy w wr (some g) := gwz
     have HcE0 : World.cell? wr ⟨w4.heap.size, 0, none⟩ = some (.int .i64 pX) := (by go_simp)
     have HcE1 : World.cell? wr ⟨w4.heap.size, 1, none⟩ = some (.int .i64 pY) := (by go_simp)
     have HcE2 : World.cell? wr ⟨w5.heap.size, 0, none⟩ = some (.int .i64 ex) := (by go_simp)
     have HcE3 : World.cell? wr ⟨w5.heap.size, 1, none⟩ = some (.int .i64 ey) := (by go_simp)
     refine wp_region_held_drew (S := fun W => W.cell? ⟨w4.heap.size, 0, none⟩ = some (.int .i64 pX) ∧ W.cell? ⟨w4.heap.size, 1, none⟩ = some (.int .i64 pY) ∧ W.cell? ⟨w5.heap.size, 0, none⟩ = some (.int .i64 ex) ∧ W.cell? ⟨w5.heap.size, 1, none⟩ = some (.int .i64 ey) ∧ World.grownBy w W (some g) ∧ Src W g) (by kernel_rfl) ⟨HcE0, HcE1, HcE2, HcE3, gr_drew HwE, by assumption⟩ (fun hHeld => ?_)
     refine tkD 0 (some 66) rfl ?_; simp only [pz]
     refine tkD 1 (some 67) rfl ?_; simp only [pz]
     refine tkD 2 (some 68) rfl ?_; simp only [pz]
     refine tkD 3 (some 69) rfl ?_; simp only [pz]
     refine tkD 4 (some 70) rfl ?_; simp only [pz]
     refine tkD 5 (some 71) rfl ?_; simp only [pz]
     refine tkD 6 (some 72) rfl ?_; simp only [pz]
     refine tkD 7 (some 73) rfl ?_; simp only [pz]
     refine tkD 11 (some 77) rfl ?_; simp only [pz]
     refine tkD 12 (some 78) rfl ?_; simp only [pz]
     refine tkD 13 (some 79) rfl ?_; simp only [pz]
     refine tkD 14 (some 80) rfl ?_; simp only [pz]
     refine tkD 15 (some 81) rfl ?_; simp only [pz]
     refine tkD 16 (some 82) rfl ?_; simp only [pz]
     refine tkD 17 (some 83) rfl ?_; simp only [pz]
     refine tkD 18 (some 84) rfl ?_; simp only [pz]
     refine wpAnyH_inv (fuel := 1) [8, 9, 10, 19, 20, 21, 22, 23] [74, 75, 76, 85, 86, 87, 88, 16] (fun u L W => (World.grownBy wr W (some g) ∧ Src W g) ∧ (L 8 → FInt (u 74)) ∧ (L 9 → FInt (u 75)) ∧ (L 10 → FInt (u 76)) ∧ (L 19 → FInt (u 85)) ∧ (L 20 → FInt (u 86)) ∧ (L 21 → FInt (u 87)) ∧ (L 22 → FAgg2 (u 88)) ∧ (L 23 → FBox g wr 2 (u 16) W) ∧ True) (by decide) (by kernel_rfl) (fun u L W hJ => ⟨cell_grown hJ.1.1 (by omega) HcE0, cell_grown hJ.1.1 (by omega) HcE1, cell_grown hJ.1.1 (by omega) HcE2, cell_grown hJ.1.1 (by omega) HcE3, HwE.trans hJ.1.1, hJ.1.2⟩) (fun u L hL => ⟨⟨gr_drew (World.grownBy.refl _ _), by assumption⟩, fun k => absurd k (hL 8 (by decide)), fun k => absurd k (hL 9 (by decide)), fun k => absurd k (hL 10 (by decide)), fun k => absurd k (hL 19 (by decide)), fun k => absurd k (hL 20 (by decide)), fun k => absurd k (hL 21 (by decide)), fun k => absurd k (hL 22 (by decide)), fun k => absurd k (hL 23 (by decide)), trivial⟩) ?_ ?_
     ·refine sc1 74 ?_ ?_
      rotate_left
      refine sc1 75 ?_ ?_
      rotate_left
      refine sc1 76 ?_ ?_
      rotate_left
      refine sc1 85 ?_ ?_
      rotate_left
      refine sc1 86 ?_ ?_
      rotate_left
      refine sc1 87 ?_ ?_
      rotate_left
      refine sc1 88 ?_ ?_
      rotate_left
      refine sc1 16 ?_ ?_
      rotate_left
      exact StepsH.nil
      ·intro u L W hn hd hJ
       obtain ⟨hk, f74, f75, f76, f85, f86, f87, f88, f16, _⟩ := hJ
       have hnd := hk.2
       intro K hK
       simp only [puts, pz]
       go_simp; (first | (go_at_call 109; (with_reducible refine (KF1.out _).mono ?_); rintro e w9 ⟨rfl, rfl⟩) | (go_at_call 109; (with_reducible refine (KF2.out _).mono ?_); rintro e w9 ⟨rfl, rfl⟩))
       all_goals (try go_wp2_with fail)
       all_goals
        apply Shut.go3 (W := W) (g := g) hK
        ·simp only [puts, pz]; rfl
        ·exact gbz
        ·exact sbz
        ·intro hg hs; exact ⟨Dr.step hk hg hs, fun _ => by rw [upd_same]; exact ⟨_, rfl⟩, unz f75, unz f76, unz f85, unz f86, unz f87, unz f88, unz fun h => FBox.later hg (f16 h), trivial⟩
      ·intro u L W hn hd hJ
       obtain ⟨hk, f74, f75, f76, f85, f86, f87, f88, f16, _⟩ := hJ
       have hnd := hk.2
       obtain ⟨x74, e74⟩ := f74 (hd 8 (by kernel_rfl))
       intro K hK
       simp only [puts, pz, e74]
       go_simp
       all_goals (try go_wp2_with fail)
       all_goals
        apply Shut.go3 (W := W) (g := g) hK
        ·simp only [puts, pz, e74]; rfl
        ·exact gbz
        ·exact sbz
        ·intro hg hs; exact ⟨Dr.step hk hg hs, unz f74, fun _ => by rw [upd_same]; exact ⟨_, rfl⟩, unz f76, unz f85, unz f86, unz f87, unz f88, unz fun h => FBox.later hg (f16 h), trivial⟩
      ·intro u L W hn hd hJ
       obtain ⟨hk, f74, f75, f76, f85, f86, f87, f88, f16, _⟩ := hJ
       have hnd := hk.2
       obtain ⟨x75, e75⟩ := f75 (hd 9 (by kernel_rfl))
       intro K hK
       simp only [puts, pz, e75]
       go_simp
       all_goals (try go_wp2_with fail)
       all_goals
        apply Shut.go3 (W := W) (g := g) hK
        ·simp only [puts, pz, e75]; rfl
        ·exact gbz
        ·exact sbz
        ·intro hg hs; exact ⟨Dr.step hk hg hs, unz f74, unz f75, fun _ => by rw [upd_same]; exact ⟨_, rfl⟩, unz f85, unz f86, unz f87, unz f88, unz fun h => FBox.later hg (f16 h), trivial⟩
      ·intro u L W hn hd hJ
       obtain ⟨hk, f74, f75, f76, f85, f86, f87, f88, f16, _⟩ := hJ
       have hnd := hk.2
       intro K hK
       simp only [puts, pz]
       go_simp; (first | (go_at_call 109; (with_reducible refine (KF1.out _).mono ?_); rintro e w9 ⟨rfl, rfl⟩) | (go_at_call 109; (with_reducible refine (KF2.out _).mono ?_); rintro e w9 ⟨rfl, rfl⟩))
       all_goals (try go_wp2_with fail)
       all_goals
        apply Shut.go3 (W := W) (g := g) hK
        ·simp only [puts, pz]; rfl
        ·exact gbz
        ·exact sbz
        ·intro hg hs; exact ⟨Dr.step hk hg hs, unz f74, unz f75, unz f76, fun _ => by rw [upd_same]; exact ⟨_, rfl⟩, unz f86, unz f87, unz f88, unz fun h => FBox.later hg (f16 h), trivial⟩
      ·intro u L W hn hd hJ
       obtain ⟨hk, f74, f75, f76, f85, f86, f87, f88, f16, _⟩ := hJ
       have hnd := hk.2
       obtain ⟨x85, e85⟩ := f85 (hd 19 (by kernel_rfl))
       intro K hK
       simp only [puts, pz, e85]
       go_simp
       all_goals (try go_wp2_with fail)
       all_goals
        apply Shut.go3 (W := W) (g := g) hK
        ·simp only [puts, pz, e85]; rfl
        ·exact gbz
        ·exact sbz
        ·intro hg hs; exact ⟨Dr.step hk hg hs, unz f74, unz f75, unz f76, unz f85, fun _ => by rw [upd_same]; exact ⟨_, rfl⟩, unz f87, unz f88, unz fun h => FBox.later hg (f16 h), trivial⟩
      ·intro u L W hn hd hJ
       obtain ⟨hk, f74, f75, f76, f85, f86, f87, f88, f16, _⟩ := hJ
       have hnd := hk.2
       obtain ⟨x86, e86⟩ := f86 (hd 20 (by kernel_rfl))
       intro K hK
       simp only [puts, pz, e86]
       go_simp
       all_goals (try go_wp2_with fail)
       all_goals
        apply Shut.go3 (W := W) (g := g) hK
        ·simp only [puts, pz, e86]; rfl
        ·exact gbz
        ·exact sbz
        ·intro hg hs; exact ⟨Dr.step hk hg hs, unz f74, unz f75, unz f76, unz f85, unz f86, fun _ => by rw [upd_same]; exact ⟨_, rfl⟩, unz f88, unz fun h => FBox.later hg (f16 h), trivial⟩
      ·intro u L W hn hd hJ
       obtain ⟨hk, f74, f75, f76, f85, f86, f87, f88, f16, _⟩ := hJ
       have hnd := hk.2
       obtain ⟨x76, e76⟩ := f76 (hd 10 (by kernel_rfl))
       obtain ⟨x87, e87⟩ := f87 (hd 21 (by kernel_rfl))
       intro K hK
       simp only [puts, pz, e76, e87]
       go_simp
       all_goals (try go_wp2_with fail)
       all_goals
        apply Shut.go3 (W := W) (g := g) hK
        ·simp only [puts, pz, e76, e87]; rfl
        ·exact gbz
        ·exact sbz
        ·intro hg hs; exact ⟨Dr.step hk hg hs, unz f74, unz f75, unz f76, unz f85, unz f86, unz f87, fun _ => by rw [upd_same]; exact ⟨_, _, rfl⟩, unz fun h => FBox.later hg (f16 h), trivial⟩
      ·intro u L W hn hd hJ
       obtain ⟨hk, f74, f75, f76, f85, f86, f87, f88, f16, _⟩ := hJ
       have hnd := hk.2
       intro K hK
       simp only [puts, pz]
       go_simp
       all_goals (try go_wp2_with fail)
       all_goals
        apply Shut.go3 (W := W) (g := g) hK
        ·simp only [puts, pz]; rfl
        ·exact gbz
        ·exact sbz
        ·intro hg hs; exact ⟨Dr.step hk hg hs, unz f74, unz f75, unz f76, unz f85, unz f86, unz f87, unz f88, fun _ => by rw [upd_same]; exact FBox.new (Src.lt hnd) (World.grownBy.size hk.1) _ _ (by rfl), trivial⟩
     ·intro u L W hJ hL
      obtain ⟨hk, f74, f75, f76, f85, f86, f87, f88, f16, _⟩ := hJ
      obtain ⟨x74, e74⟩ := f74 (hL 8 (by kernel_rfl))
      obtain ⟨x75, e75⟩ := f75 (hL 9 (by kernel_rfl))
      obtain ⟨x76, e76⟩ := f76 (hL 10 (by kernel_rfl))
      obtain ⟨x85, e85⟩ := f85 (hL 19 (by kernel_rfl))
      obtain ⟨x86, e86⟩ := f86 (hL 20 (by kernel_rfl))
      obtain ⟨x87, e87⟩ := f87 (hL 21 (by kernel_rfl))
      obtain ⟨x88_0, x88_1, e88⟩ := f88 (hL 22 (by kernel_rfl))
      obtain ⟨b16, e16, gb16, bb16, lb16, cb16⟩ := f16 (hL 23 (by kernel_rfl))
      clear hHeld; have hcW := gcell hk.1; have hfW := gfroz hk.1; have hHeld := And.intro (HwE.trans hk.1) hk.2; have lW := hk.1.size
      clear f74
      clear f75
      clear f76
      clear f85
      clear f86
      clear f87
      clear f88
      clear f16
      simp only [puts, pz, setAll, Array.replicate, e74, e75, e76, e85, e86, e87, e88, e16]
      obtain ⟨⟨y16_0, cy16_0⟩, fy16_0⟩ := cb16 0 (by decide)
      obtain ⟨⟨y16_1, cy16_1⟩, fy16_1⟩ := cb16 1 (by decide)
      refine rd1 24 none rfl (fun K hK => ?_)
      go_simp
      all_goals (try go_wp2_with fail)
      refine hK.out _ _ ?_ (fun hH2 => ?_)
      ·have hHg := hHeld.1; have hHs := hHeld.2; exact ⟨(by go_simp; done), (by go_simp; done), (by go_simp; done), (by go_simp; done), gwz, swz⟩
      clear hK K hHeld; (have hHeld := hH2.2.2.2.2); clear hH2; (try simp only [Act.put])
      refine wpAnyH_done (by kernel_rfl) ?_ _; (try simp only [pz])
      obtain ⟨hgE, hsE⟩ := hHeld
      obtain ⟨wE, hE⟩ : ∃ x, x = (W.setCell ⟨b16, 0, none⟩ (.int .i64 x88_0)).setCell ⟨b16, 1, none⟩ (.int .i64 x88_1) := ⟨_, rfl⟩
      have hrE : wr.grownBy wE (some g) := by rw [hE]; exact gr_new (gr_new hk.1 bb16) bb16
      have e0 : wE.cell? ⟨b16, 0, none⟩ = some (.int .i64 x88_0) := by rw [hE]; go_simp
      have e1 : wE.cell? ⟨b16, 1, none⟩ = some (.int .i64 x88_1) := by rw [hE]; go_simp
      rw [← hE] at hgE hsE ⊢
      have HOE := hide (own_kept HO.out hrE (by omega))
      have HRE := hide (And.intro (cell_grown hrE nz2 HR.out.1) ((gfroz hrE _ _ zr1 nz2).trans HR.out.2))
      have HGE := hide (gr_step HG.out hrE)
      have HLE := hide (row_grown HL.out hrE ngl)
      have HPE := hide (And.intro (cell_grown hrE n4g k0) (And.intro (cell_grown hrE n4g k1) (And.intro (cell_grown hrE n5g k2) (cell_grown hrE n5g k3))))
      have HSE := hide hsE
      have zE := hrE.size
      have zb16 : b16 < wE.heap.size := World.block_lt_of_cell? _ _ e0
      clear hE hrE hgE hsE hcW hfW hk HO HR HG HL HP HS hsr hgr0 KF1 KF2 wm1 wm2 k0 k1 k2 k3
      have KP := hide (fun (bb : Bool) (hb : isPt x88_0 x88_1 = bb) W => hb ▸ spec_IsPoint x88_0 x88_1 W)
      rcases b2 (isPt x88_0 x88_1) with hp | hp
      ·have KP2 := hide (KP.out false hp)
       clear KP hp
       go_wp2_with fail; (with_reducible refine (KP2.out _).mono ?_); rintro e wI ⟨rfl, hbI⟩
       have zI := hbI.size
       have HOI := hide (own_later hbI HOE.out)
       have HRI := hide (And.intro (cell_later hbI HRE.out.1) (frozen_later hbI HRE.out.1 HRE.out.2))
       have HGI := hide (gr_belowB HGE.out (hbI.mono (by omega)))
       have HLI := hide (RowAt.later hbI HLE.out)
       have HPI := hide (And.intro (cell_later hbI HPE.out.1) (And.intro (cell_later hbI HPE.out.2.1) (And.intro (cell_later hbI HPE.out.2.2.1) (cell_later hbI HPE.out.2.2.2))))
       have HSI := hide (Src.keep hbI HSE.out)
       clear hbI HOE HRE HGE HLE HPE HSE e0 e1 KP2
       have wv : IntKind.i64.wrap (sv - 2) = sv - 2 := IntWalk.i64_in _ (by omega)
       go_wp2
       go_roundw
       case rel => exact ⟨s9 + 1, q9, xo, cp9, T, sv - 2, Lf, by omega, rfl, by have := Hsv.out; omega, by omega, rfl, hl, hT0, hT1, HM, HOI, rfl, hxo, hx4, hx5, HSI, HRI, HGI, HLI, HPI, by omega⟩
       case measure => simp [intOf] <;> omega
      ·have KP2 := hide (KP.out true hp)
       clear KP hp
       go_wp2_with fail; (with_reducible refine (KP2.out _).mono ?_); rintro e wI ⟨rfl, hbI⟩
       have zI := hbI.size
       have HOI := hide (own_later hbI HOE.out)
       have HRI := hide (And.intro (cell_later hbI HRE.out.1) (frozen_later hbI HRE.out.1 HRE.out.2))
       have HGI := hide (gr_belowB HGE.out (hbI.mono (by omega)))
       have HLI := hide (RowAt.later hbI HLE.out)
       have HPI := hide (And.intro (cell_later hbI HPE.out.1) (And.intro (cell_later hbI HPE.out.2.1) (And.intro (cell_later hbI HPE.out.2.2.1) (cell_later hbI HPE.out.2.2.2))))
       have HSI := hide (Src.keep hbI HSE.out)
       have f0 := cell_later hbI e0
       have f1 := cell_later hbI e1
       have hq18 : q9 ≤ 30 := by omega
       clear hbI HOE HRE HGE HLE HPE HSE e0 e1 KP2
       go_wp2_with (at_builtin; refine wpList_append_lies _ rfl _ _ 31 rfl (w.heap.size + 1 + 1) 50 i0 _ 3 24 Tryz.underlying31 Hi.out Hz.out.1 Hz.out.2.1 Hz.out.2.2 rfl (by decide) _ _ _ rfl (HOI.out.alloc _) ⟨wI.heap.size, 0, none⟩ 1 1 [.int .i64 T, .int .i64 x88_0, .int .i64 x88_1] rfl rfl new3 (one3 _ _ _) (by decide) (by unfold maxLen; omega) (by omega) (by simp; omega) (wI.heap.size + 1) (by simp) ?_)
       intro g' cap' wA hown' hgr hat hlt'
       have hgr2 : (wI.alloc (.cells #[.int .i64 T, .int .i64 x88_0, .int .i64 x88_1] 50)).grownBy wA (some xo) := hgr
       have hb := below_grown HOI.out (by omega) hgr
       have hsA := World.grownBy.size hgr
       simp only [size_al] at hsA
       have hat2 : g' = xo ∨ g' = wI.heap.size + 1 := hat.imp (fun e => by simp only [Value.ownBlock, Option.some.injEq] at e; exact e.symm) id
       have cA := fun b o (v : Value) (h1 : b < wI.heap.size) (h2 : ¬ b = xo) (h : wI.cell? ⟨b, o, none⟩ = some v) => (gcell hgr2 b o (by simp; omega) h2).trans (cell_alloc h)
       have HOA := hide (show wA.ownsRow (w.heap.size + 1 + 1) 50 3 (.slice (some ⟨g', 0, none⟩) (q9 + 1) cap') (q9 + 1) ((Lf ++ [T, x88_0, x88_1]).map (Value.int .i64)) by rw [List.map_append]; exact hown')
       have HSA := hide (Src.keepB (hb.mono (by omega)) HSI.out)
       have HGA := hide (gr_belowB HGI.out (hb.mono (by omega)))
       have HRA := hide (And.intro (cell_below hb (by omega) HRI.out.1) (((bcell hb).2 _ _ (by omega)).trans HRI.out.2))
       have HPA := hide (And.intro (cA _ _ _ (by omega) (Ne.symm hx4) HPI.out.1) (And.intro (cA _ _ _ (by omega) (Ne.symm hx4) HPI.out.2.1) (And.intro (cA _ _ _ (by omega) (Ne.symm hx5) HPI.out.2.2.1) (cA _ _ _ (by omega) (Ne.symm hx5) HPI.out.2.2.2))))
       have HLA := hide (row_grown (RowAt.later (Below.alloc (Below.refl _ _) (Nat.le_refl _) (.cells #[.int .i64 T, .int .i64 x88_0, .int .i64 x88_1] 50)) HLI.out) hgr2 (Ne.symm hxo))
       have HMA := hide (tl_app (a := x88_0) (b := x88_1) hl HM.out (T := T) (by omega))
       have hlA : (Lf ++ [T, x88_0, x88_1]).length = (q9 + 1) * 3 := by simp; omega
       generalize Lf ++ [T, x88_0, x88_1] = LA at *
       have yg1 : ¬ g' = gl := by omega
       have yg4 : ¬ g' = w4.heap.size := by omega
       have yg5 : ¬ g' = w5.heap.size := by omega
       have zA1 : w.heap.size + 1 < wA.heap.size := by omega
       clear hgr hgr2 hown' hb cA HOI HSI HGI HRI HPI HLI HM hl f0 f1 hat hat2 hlt'
       go_wp2_with fail; (with_reducible refine (spec_l01NextN g 900 900 _ HSA.out (by decide) (by decide) (by decide)).mono ?_); rintro e w9 ⟨⟨x9, rfl, hx9⟩, hg9, hs9⟩; have hc9 := gcell hg9; have hf9 := gfroz hg9; have lg9 := Src.lt hs9; have nga9 : ¬ w9.heap.size = g := (by omega); have ngb9 : ¬ g = w9.heap.size := (by omega); have hzs9 := hg9.size; (try simp at hzs9); have zx9_0 : w.heap.size < w9.heap.size := (by first | omega | (simp at hzs9; omega)); have zy9_0 : w.heap.size < w9.heap.size + 1 := (by omega); have zw9_0 : ¬ w9.heap.size = w.heap.size := (by omega); have zv9_0 : ¬ w.heap.size = w9.heap.size := (by omega); have zu9_0 : w.heap.size < w9.heap.size + 1 + 1 := (by omega); have zt9_0 : ¬ w9.heap.size + 1 = w.heap.size := (by omega); have zr9_0 : ¬ w.heap.size = w9.heap.size + 1 := (by omega); have zx9_1 : w.heap.size + 1 < w9.heap.size := (by first | omega | (simp at hzs9; omega)); have zy9_1 : w.heap.size + 1 < w9.heap.size + 1 := (by omega); have zw9_1 : ¬ w9.heap.size = w.heap.size + 1 := (by omega); have zv9_1 : ¬ w.heap.size + 1 = w9.heap.size := (by omega); have zu9_1 : w.heap.size + 1 < w9.heap.size + 1 + 1 := (by omega); have zt9_1 : ¬ w9.heap.size + 1 = w.heap.size + 1 := (by omega); have zr9_1 : ¬ w.heap.size + 1 = w9.heap.size + 1 := (by omega); have zx9_2 : gl < w9.heap.size := (by first | omega | (simp at hzs9; omega)); have zy9_2 : gl < w9.heap.size + 1 := (by omega); have zw9_2 : ¬ w9.heap.size = gl := (by omega); have zv9_2 : ¬ gl = w9.heap.size := (by omega); have zu9_2 : gl < w9.heap.size + 1 + 1 := (by omega); have zt9_2 : ¬ w9.heap.size + 1 = gl := (by omega); have zr9_2 : ¬ gl = w9.heap.size + 1 := (by omega); have zx9_3 : w4.heap.size < w9.heap.size := (by first | omega | (simp at hzs9; omega)); have zy9_3 : w4.heap.size < w9.heap.size + 1 := (by omega); have zw9_3 : ¬ w9.heap.size = w4.heap.size := (by omega); have zv9_3 : ¬ w4.heap.size = w9.heap.size := (by omega); have zu9_3 : w4.heap.size < w9.heap.size + 1 + 1 := (by omega); have zt9_3 : ¬ w9.heap.size + 1 = w4.heap.size := (by omega); have zr9_3 : ¬ w4.heap.size = w9.heap.size + 1 := (by omega); have zx9_4 : w5.heap.size < w9.heap.size := (by first | omega | (simp at hzs9; omega)); have zy9_4 : w5.heap.size < w9.heap.size + 1 := (by omega); have zw9_4 : ¬ w9.heap.size = w5.heap.size := (by omega); have zv9_4 : ¬ w5.heap.size = w9.heap.size := (by omega); have zu9_4 : w5.heap.size < w9.heap.size + 1 + 1 := (by omega); have zt9_4 : ¬ w9.heap.size + 1 = w5.heap.size := (by omega); have zr9_4 : ¬ w5.heap.size = w9.heap.size + 1 := (by omega)
       have z9 := hg9.size
       have HO9 := hide (own_kept HOA.out hg9 (by omega))
       have HR9 := hide (And.intro (cell_grown hg9 nz2 HRA.out.1) ((gfroz hg9 _ _ zA1 nz2).trans HRA.out.2))
       have HG9 := hide (gr_step HGA.out hg9)
       have HL9 := hide (row_grown HLA.out hg9 ngl)
       have HP9 := hide (And.intro (cell_grown hg9 n4g HPA.out.1) (And.intro (cell_grown hg9 n4g HPA.out.2.1) (And.intro (cell_grown hg9 n5g HPA.out.2.2.1) (cell_grown hg9 n5g HPA.out.2.2.2))))
       have HS9 := hide hs9
       clear hc9 hf9 hg9 HOA HRA HGA HLA HPA HSA
       have wv : IntKind.i64.wrap (sv - 2) = sv - 2 := IntWalk.i64_in _ (by omega)
       have ww1 : IntKind.i64.wrap (1 + (x9 : Int)) = 1 + (x9 : Int) := IntWalk.i64_in _ (by omega)
       have ww2 : IntKind.i64.wrap (T + (1 + (x9 : Int))) = T + (1 + (x9 : Int)) := IntWalk.i64_in _ (by omega)
       go_wp2
       go_roundw
       case rel => exact ⟨s9 + 1, q9 + 1, g', cap', T + (1 + (x9 : Int)), sv - 2, LA, by omega, rfl, by have := Hsv.out; omega, by omega, rfl, hlA, by omega, by omega, HMA, HO9, rfl, yg1, yg4, yg5, HS9, HR9, HG9, HL9, HP9, by omega⟩
       case measure => simp [intOf] <;> omega
    ·have hlt9 : ¬ -1 ≤ sv := by omega
     go_wp2
     go_roundw
     case rel => exact ⟨k + 1, q9, xo, cp9, T, Lf, rfl, by go_num, by omega, by omega, hl, hT0, hT1, HM, HO, rfl, hxo, HS, HR, HG, HL, by omega⟩
     case measure => simp [intOf] <;> omega
  ·obtain rfl : k = n + 2 := by omega
   obtain ⟨r0, r1⟩ := HR.out
   have hgF := HG.out
   have hsF := HS.out
   by_cases hq2 : q < 2
   ·have hq2i : (q : Int) < 2 := by omega
    go_wp2_with fail; (with_reducible refine (spec_l03Draw g _ HS.out).mono ?_); rintro e w7 ⟨⟨so7, n7, cap7, L7, rfl, q71, q72, q73, ho⟩, hg7, hs7⟩; have hc7 := gcell hg7; have hf7 := gfroz hg7; have lg7 := Src.lt hs7; have nga7 : ¬ w7.heap.size = g := (by omega); have ngb7 : ¬ g = w7.heap.size := (by omega); have hzs7 := hg7.size; (try simp at hzs7); have zx7_0 : w.heap.size + 1 < w7.heap.size := (by first | omega | (simp at hzs7; omega)); have zy7_0 : w.heap.size + 1 < w7.heap.size + 1 := (by omega); have zw7_0 : ¬ w7.heap.size = w.heap.size + 1 := (by omega); have zv7_0 : ¬ w.heap.size + 1 = w7.heap.size := (by omega); have zu7_0 : w.heap.size + 1 < w7.heap.size + 1 + 1 := (by omega); have zt7_0 : ¬ w7.heap.size + 1 = w.heap.size + 1 := (by omega); have zr7_0 : ¬ w.heap.size + 1 = w7.heap.size + 1 := (by omega)
    have Ho := hide ho
    have z7 := hg7.size
    clear ho
    go_wp2
    simp [bodyPost, results, Tryz.results61, go_sem, *]
    exact ⟨⟨_, _, _, _, rfl, by omega, by omega, q73, (OwnI.far Ho.out (by omega)).mono (by omega) (by omega)⟩, gwz, swz⟩
   ·have hq2i : ¬ (q : Int) < 2 := by omega
    obtain ⟨so', cp, e9, hcap, ho⟩ := ownI_of_row hl HM.out HO.out
    injection e9 with e91 _ e93
    subst e91
    subst e93
    have HOl := hide ho
    clear ho HM HO
    go_wp2
    simp [bodyPost, results, Tryz.results61, go_sem, *]
    exact ⟨⟨_, _, _, _, rfl, by omega, by omega, hcap, (OwnI.far HOl.out (by omega)).mono (by omega) (by omega)⟩, gwz, swz⟩
end Go.Proofs.YtgcdgdnmcdffoaaGreatDoor
