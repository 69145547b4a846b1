/- Walks: a course and a track are drawn. -/
import Derived.Test.YtgcdgdnmcdffoaaGreatDoorYe
import Derived.Test.YtgcdgdnmcdffoaaGreatDoorYf
import Derived.Deep.Cut
import Derived.Deep.DeepCutAuto
import Derived.Deep.CutBlock
namespace Go.Proofs.YtgcdgdnmcdffoaaGreatDoor
open Go.RowKit

theorem CoB.put2 {W : World} {b : Nat} {ax ay bx bY cx cy dx dy : Int} {so : Option Addr} {n cap : Nat} {vx vy ux uy px py qx qy : Int} {so' : Option Addr} {n' cap' : Nat} (h : CoB W b ax ay bx bY cx cy dx dy so n cap) :
 CoB (((((((((W.setCell ⟨b, 0, none⟩ (.int .i64 vx)).setCell ⟨b, 1, none⟩ (.int .i64 vy)).setCell ⟨b, 2, none⟩ (.int .i64 ux)).setCell ⟨b, 3, none⟩ (.int .i64 uy)).setCell ⟨b, 4, none⟩ (.int .i64 px)).setCell ⟨b, 5, none⟩ (.int .i64 py)).setCell ⟨b, 6, none⟩ (.int .i64 qx)).setCell ⟨b, 7, none⟩ (.int .i64 qy)).setCell ⟨b, 8, none⟩ (.slice so' n' cap')) b vx vy ux uy px py qx qy so' n' cap' := by
 obtain ⟨c0, c1, c2, c3, c4, c5, c6, c7, c8, f0, f1, f2, f3, f4, f5, f6, f7, f8⟩ := h
 exact ⟨by go_simp, by go_simp, by go_simp, by go_simp, by go_simp, by go_simp, by go_simp, by go_simp, by go_simp, by go_simp, by go_simp, by go_simp, by go_simp, by go_simp, by go_simp, by go_simp, by go_simp, by go_simp⟩
theorem OwnI.spot2 {c b : Nat} {M : Int} {W W' : World} {B : Nat} {L : List Int} {n : Nat} {so : Option Addr} (h : OwnI c M W B L n so) (hp : Spot b W W') (hb : b < B) : OwnI c M W' B L n so := by
 obtain ⟨h0, hM, ⟨rfl, h2⟩ | ⟨g', rfl, h3, h4, h5⟩⟩ := h
 ·exact ⟨h0, hM, .inl ⟨rfl, h2⟩⟩
 ·exact ⟨h0, hM, .inr ⟨g', rfl, h3, by rw [hp.size]; exact h4, fun k hk => ⟨(hp.cell (by omega)).trans (h5 k hk).1, (hp.froz' _ _).trans (h5 k hk).2⟩⟩⟩
theorem OwnM.spot2 {b : Nat} {W W' : World} {B n : Nat} {N : Nat → ByteArray} {X Y S Z : Nat → Int} {so : Option Addr} (h : OwnM W B N X Y S Z n so) (hp : Spot b W W') (hb : b < B) : OwnM W' B N X Y S Z n so := by
 rcases h with h | ⟨g', rfl, h3, h4, h5⟩
 ·exact .inl h
 ·exact .inr ⟨g', rfl, h3, by rw [hp.size]; exact h4, fun i hi j hj => ⟨(hp.cell (by omega)).trans (h5 i hi j hj).1, (hp.froz' _ _).trans (h5 i hi j hj).2⟩⟩
theorem OwnI.drew2 {c : Nat} {M : Int} {W : World} {B : Nat} {L : List Int} {n : Nat} {so : Option Addr} (h : OwnI c M W B L n so) : OwnI c M W.drew B L n so := h
theorem OwnM.drew2 {W : World} {B n : Nat} {N : Nat → ByteArray} {X Y S Z : Nat → Int} {so : Option Addr} (h : OwnM W B N X Y S Z n so) : OwnM W.drew B N X Y S Z n so := h
/-- What a draw of a course and a track returns. -/
def CtC (w : World) (g : Nat) (e : Ending) (w' : World) : Prop :=
 (∃ (ax ay bx bY cx cy dx dy : Int) (so : Option Addr) (n cap : Nat) (N : Nat → ByteArray) (X Y S Z : Nat → Int) (so2 : Option Addr) (n2 cap2 : Nat) (Lt : List Int), e = .returned (.tuple #[.agg #[.int .i64 ax, .int .i64 ay, .int .i64 bx, .int .i64 bY, .int .i64 cx, .int .i64 cy, .int .i64 dx, .int .i64 dy, .slice so n cap], .agg #[.slice so2 n2 cap2]]) ∧ n ≤ 9 ∧ n ≤ cap ∧ OwnM w' w.heap.size N X Y S Z n so ∧ 1 ≤ n2 ∧ n2 ≤ 41 ∧ n2 ≤ cap2 ∧ OwnI 3 2000000000 w' w.heap.size Lt n2 so2) ∧ w.grownBy w' (some g) ∧ Src w' g

set_option maxRecDepth 100000 in
set_option maxHeartbeats 16000000 in
theorem spec_l06Draw (g : Nat) (w : World) (h : Src w g) : Calls Tryz.prog 67 #[.pointer (some ⟨g, 0, none⟩)] w (CtC w g) := by
 have ng := Src.lt h
 have nz0 : ¬ w.heap.size = g := by omega
 have nz1 : ¬ g = w.heap.size := by omega
 have nz2 : ¬ w.heap.size + 1 = g := by omega
 go_enter Tryz.func67, Tryz.ntmps67
 go_wp2_with fail; (with_reducible refine (spec_l04Draw g _ swz).mono ?_); rintro e w1 ⟨⟨ax, ay, bx, bY, cx, cy, dx, dy, so, n, cap, N, X, Y, S, Z, rfl, q1, q2, q3, hA, ho⟩, hg1, hs1⟩; have hc1 := gcell hg1; have hf1 := gfroz hg1; have lg1 := Src.lt hs1; have nga1 : ¬ w1.heap.size = g := (by omega); have ngb1 : ¬ g = w1.heap.size := (by omega); have hzs1 := hg1.size; (try simp at hzs1); have zx1_0 : w.heap.size < w1.heap.size := (by first | omega | (simp at hzs1; omega)); have zy1_0 : w.heap.size < w1.heap.size + 1 := (by omega); have zw1_0 : ¬ w1.heap.size = w.heap.size := (by omega); have zv1_0 : ¬ w.heap.size = w1.heap.size := (by omega); have zu1_0 : w.heap.size < w1.heap.size + 1 + 1 := (by omega); have zt1_0 : ¬ w1.heap.size + 1 = w.heap.size := (by omega); have zr1_0 : ¬ w.heap.size = w1.heap.size + 1 := (by omega); have zx1_1 : w.heap.size + 1 < w1.heap.size := (by first | omega | (simp at hzs1; omega)); have zy1_1 : w.heap.size + 1 < w1.heap.size + 1 := (by omega); have zw1_1 : ¬ w1.heap.size = w.heap.size + 1 := (by omega); have zv1_1 : ¬ w.heap.size + 1 = w1.heap.size := (by omega); have zu1_1 : w.heap.size + 1 < w1.heap.size + 1 + 1 := (by omega); have zt1_1 : ¬ w1.heap.size + 1 = w.heap.size + 1 := (by omega); have zr1_1 : ¬ w.heap.size + 1 = w1.heap.size + 1 := (by omega)
 simp only [size_al] at ho
 obtain ⟨b, rfl, hbB, hbl, _⟩ := ho.blk (by omega)
 have hzz1 := hg1.size
 simp only [size_al] at hzz1
 have HO1 := hide (ho.mono (show w.heap.size + 2 ≤ w.heap.size + 1 + 1 by omega))
 have HRa := hide (mine_grow (Mine.later (Below.alloc (Below.refl _ _) (Nat.le_refl _) (.cells #[.slice none 0 0] 33)) (mine_make (w := w) (c := #[.int .i64 0, .int .i64 0, .int .i64 0, .int .i64 0, .int .i64 0, .int .i64 0, .int .i64 0, .int .i64 0, .slice none 0 0]) (t := 30) (m := 9) rfl)) hg1 (by simp; omega) (by omega))
 have HRb := hide (mine_grow (mine_make (w := w.alloc (.cells #[.int .i64 0, .int .i64 0, .int .i64 0, .int .i64 0, .int .i64 0, .int .i64 0, .int .i64 0, .int .i64 0, .slice none 0 0] 30)) (c := #[.slice none 0 0]) (t := 33) (m := 1) rfl) hg1 (by simp) (by simp; omega))
 simp only [size_al] at HRa HRb
 have HG1 := hide (show w.grownBy w1 (some g) from gwz)
 have HS1 := hide hs1
 have hn1 : 1 ≤ n := by omega
 have hn9 : n ≤ 9 := by omega
 have n1g : ¬ w1.heap.size = g := by omega
 have zw0 : w.heap.size < w1.heap.size := by omega
 have zw1 : w.heap.size + 1 < w1.heap.size := by omega
 have nbg : ¬ b = g := by omega
 have nb0 : ¬ b = w.heap.size := by omega
 have nb1 : ¬ b = w.heap.size + 1 := by omega
 clear ho hA q1 q2 hc1 hf1 hg1 hs1
 go_wp2_with fail; (with_reducible refine (spec_l06DrawSail ax ay bx bY cx cy dx dy (some ⟨b, 0, none⟩) n cap N X Y S Z g _ (Src.alloc HS1.out _) (fun W hg => ((HO1.out.later (Below.alloc (Below.refl _ _) (Nat.le_refl _) _)).grown hg (by omega)).row) (by omega)).mono ?_); rintro e w2 ⟨⟨so2, n2, cap2, L2, rfl, u1, u2, u3, ho2⟩, hg2, hs2⟩; have hc2 := gcell hg2; have hf2 := gfroz hg2; have lg2 := Src.lt hs2; have nga2 : ¬ w2.heap.size = g := (by omega); have ngb2 : ¬ g = w2.heap.size := (by omega); have hzs2 := hg2.size; (try simp at hzs2); have zx2_0 : w.heap.size < w2.heap.size := (by first | omega | (simp at hzs2; omega)); have zy2_0 : w.heap.size < w2.heap.size + 1 := (by omega); have zw2_0 : ¬ w2.heap.size = w.heap.size := (by omega); have zv2_0 : ¬ w.heap.size = w2.heap.size := (by omega); have zu2_0 : w.heap.size < w2.heap.size + 1 + 1 := (by omega); have zt2_0 : ¬ w2.heap.size + 1 = w.heap.size := (by omega); have zr2_0 : ¬ w.heap.size = w2.heap.size + 1 := (by omega); have zx2_1 : w.heap.size + 1 < w2.heap.size := (by first | omega | (simp at hzs2; omega)); have zy2_1 : w.heap.size + 1 < w2.heap.size + 1 := (by omega); have zw2_1 : ¬ w2.heap.size = w.heap.size + 1 := (by omega); have zv2_1 : ¬ w.heap.size + 1 = w2.heap.size := (by omega); have zu2_1 : w.heap.size + 1 < w2.heap.size + 1 + 1 := (by omega); have zt2_1 : ¬ w2.heap.size + 1 = w.heap.size + 1 := (by omega); have zr2_1 : ¬ w.heap.size + 1 = w2.heap.size + 1 := (by omega); have zx2_2 : w1.heap.size < w2.heap.size := (by first | omega | (simp at hzs2; omega)); have zy2_2 : w1.heap.size < w2.heap.size + 1 := (by omega); have zw2_2 : ¬ w2.heap.size = w1.heap.size := (by omega); have zv2_2 : ¬ w1.heap.size = w2.heap.size := (by omega); have zu2_2 : w1.heap.size < w2.heap.size + 1 + 1 := (by omega); have zt2_2 : ¬ w2.heap.size + 1 = w1.heap.size := (by omega); have zr2_2 : ¬ w1.heap.size = w2.heap.size + 1 := (by omega)
 have hzz2 := hg2.size
 simp only [size_al] at hzz2
 have HC2 := hide (show CoB w2 w1.heap.size ax ay bx bY cx cy dx dy (some ⟨b, 0, none⟩) n cap from ⟨by go_simp, by go_simp, by go_simp, by go_simp, by go_simp, by go_simp, by go_simp, by go_simp, by go_simp, by go_simp, by go_simp, by go_simp, by go_simp, by go_simp, by go_simp, by go_simp, by go_simp, by go_simp⟩)
 have hal := Below.alloc (Below.refl w1.heap.size w1) (Nat.le_refl _) (.cells #[.int .i64 ax, .int .i64 ay, .int .i64 bx, .int .i64 bY, .int .i64 cx, .int .i64 cy, .int .i64 dx, .int .i64 dy, .slice (some ⟨b, 0, none⟩) n cap] 30)
 have HT2 := hide (ho2.mono (show (40000 : Int) ≤ 2000000000 by decide) (show w1.heap.size + 1 ≤ _ by simp))
 have HO2 := hide ((HO1.out.later hal).grown hg2 (by omega))
 have HRa2 := hide (mine_grow (Mine.later hal HRa.out) hg2 (by simp; omega) nz0)
 have HRb2 := hide (mine_grow (Mine.later hal HRb.out) hg2 (by simp; omega) nz2)
 have HG2 := hide (show w.grownBy w2 (some g) from gr_step (gr_alloc HG1.out _) hg2)
 have HS2 := hide hs2
 have n2g : ¬ w2.heap.size = g := by omega
 have z12 : w1.heap.size < w2.heap.size := by omega
 have z02 : w.heap.size + 1 < w2.heap.size := by omega
 clear hal hc2 hf2 hg2 hs2 ho2 HO1 HRa HRb HG1 HS1
 go_wp2_with fail; (with_reducible refine (spec_l01NextN g 16 16 _ (Src.alloc HS2.out _) (by decide) (by decide) (by decide)).mono ?_); rintro e w3 ⟨⟨x3, rfl, hx3⟩, hg3, hs3⟩; have hc3 := gcell hg3; have hf3 := gfroz hg3; have lg3 := Src.lt hs3; have nga3 : ¬ w3.heap.size = g := (by omega); have ngb3 : ¬ g = w3.heap.size := (by omega); have hzs3 := hg3.size; (try simp at hzs3); have zx3_0 : w.heap.size < w3.heap.size := (by first | omega | (simp at hzs3; omega)); have zy3_0 : w.heap.size < w3.heap.size + 1 := (by omega); have zw3_0 : ¬ w3.heap.size = w.heap.size := (by omega); have zv3_0 : ¬ w.heap.size = w3.heap.size := (by omega); have zu3_0 : w.heap.size < w3.heap.size + 1 + 1 := (by omega); have zt3_0 : ¬ w3.heap.size + 1 = w.heap.size := (by omega); have zr3_0 : ¬ w.heap.size = w3.heap.size + 1 := (by omega); have zx3_1 : w.heap.size + 1 < w3.heap.size := (by first | omega | (simp at hzs3; omega)); have zy3_1 : w.heap.size + 1 < w3.heap.size + 1 := (by omega); have zw3_1 : ¬ w3.heap.size = w.heap.size + 1 := (by omega); have zv3_1 : ¬ w.heap.size + 1 = w3.heap.size := (by omega); have zu3_1 : w.heap.size + 1 < w3.heap.size + 1 + 1 := (by omega); have zt3_1 : ¬ w3.heap.size + 1 = w.heap.size + 1 := (by omega); have zr3_1 : ¬ w.heap.size + 1 = w3.heap.size + 1 := (by omega); have zx3_2 : w1.heap.size < w3.heap.size := (by first | omega | (simp at hzs3; omega)); have zy3_2 : w1.heap.size < w3.heap.size + 1 := (by omega); have zw3_2 : ¬ w3.heap.size = w1.heap.size := (by omega); have zv3_2 : ¬ w1.heap.size = w3.heap.size := (by omega); have zu3_2 : w1.heap.size < w3.heap.size + 1 + 1 := (by omega); have zt3_2 : ¬ w3.heap.size + 1 = w1.heap.size := (by omega); have zr3_2 : ¬ w1.heap.size = w3.heap.size + 1 := (by omega); have zx3_3 : w2.heap.size < w3.heap.size := (by first | omega | (simp at hzs3; omega)); have zy3_3 : w2.heap.size < w3.heap.size + 1 := (by omega); have zw3_3 : ¬ w3.heap.size = w2.heap.size := (by omega); have zv3_3 : ¬ w2.heap.size = w3.heap.size := (by omega); have zu3_3 : w2.heap.size < w3.heap.size + 1 + 1 := (by omega); have zt3_3 : ¬ w3.heap.size + 1 = w2.heap.size := (by omega); have zr3_3 : ¬ w2.heap.size = w3.heap.size + 1 := (by omega)
 have hzz3 := hg3.size
 simp only [size_al] at hzz3
 have hal := Below.alloc (Below.refl w2.heap.size w2) (Nat.le_refl _) (.cells #[.slice so2 n2 cap2] 33)
 have HB3 := hide (show w3.cell? ⟨w2.heap.size, 0, none⟩ = some (.slice so2 n2 cap2) ∧ w3.frozen? ⟨w2.heap.size, 0, none⟩ = false from ⟨by go_simp, by go_simp⟩)
 have HT3 := hide ((HT2.out.later hal).grown hg3 (by omega))
 have HC3 := hide ((HC2.out.later hal).grown hg3 (by simp; omega) n1g)
 have HO3 := hide ((HO2.out.later hal).grown hg3 (by omega))
 have HRa3 := hide (mine_grow (Mine.later hal HRa2.out) hg3 (by simp; omega) nz0)
 have HRb3 := hide (mine_grow (Mine.later hal HRb2.out) hg3 (by simp; omega) nz2)
 have HG3 := hide (gr_step (gr_alloc HG2.out _) hg3)
 have HS3 := hide hs3
 have z23 : w2.heap.size < w3.heap.size := by omega
 clear hal hc3 hf3 hg3 hs3 HT2 HC2 HO2 HRa2 HRb2 HG2 HS2
 go_upto_block 0 with fail
 go_cut [12] (fun s6 W => ∃ (ax ay bx bY cx cy dx dy : Int) (so : Option Addr) (n cap : Nat) (N : Nat → ByteArray) (X Y S Z : Nat → Int) (so2 : Option Addr) (n2 cap2 : Nat) (Lt : List Int), s6 = .int .i64 (x3 : Int) ∧ n ≤ 9 ∧ n ≤ cap ∧ 1 ≤ n2 ∧ n2 ≤ 41 ∧ n2 ≤ cap2 ∧ Hid (W.cell? ⟨w2.heap.size, 0, none⟩ = some (.slice so2 n2 cap2) ∧ W.frozen? ⟨w2.heap.size, 0, none⟩ = false) ∧ Hid (OwnI 3 2000000000 W (w1.heap.size + 1) Lt n2 so2) ∧ Hid (CoB W w1.heap.size ax ay bx bY cx cy dx dy so n cap) ∧ Hid (OwnM W (w.heap.size + 2) N X Y S Z n so) ∧ Hid (Mine W w.heap.size 9) ∧ Hid (Mine W (w.heap.size + 1) 1) ∧ Hid (Src W g) ∧ Hid (w.grownBy W (some g)) ∧ w2.heap.size < W.heap.size)
 case first =>
  by_cases e0 : x3 = 0
  ·subst e0
   go_wp2_with fail; (with_reducible refine (spec_l03DrawAny g _ HS3.out).mono ?_); rintro e w4 ⟨⟨so9, n9, cap9, L9, rfl, u1', u2', u3', ho9⟩, hg4, hs4⟩; have hc4 := gcell hg4; have hf4 := gfroz hg4; have lg4 := Src.lt hs4; have nga4 : ¬ w4.heap.size = g := (by omega); have ngb4 : ¬ g = w4.heap.size := (by omega); have hzs4 := hg4.size; (try simp at hzs4); have zx4_0 : w.heap.size < w4.heap.size := (by first | omega | (simp at hzs4; omega)); have zy4_0 : w.heap.size < w4.heap.size + 1 := (by omega); have zw4_0 : ¬ w4.heap.size = w.heap.size := (by omega); have zv4_0 : ¬ w.heap.size = w4.heap.size := (by omega); have zu4_0 : w.heap.size < w4.heap.size + 1 + 1 := (by omega); have zt4_0 : ¬ w4.heap.size + 1 = w.heap.size := (by omega); have zr4_0 : ¬ w.heap.size = w4.heap.size + 1 := (by omega); have zx4_1 : w.heap.size + 1 < w4.heap.size := (by first | omega | (simp at hzs4; omega)); have zy4_1 : w.heap.size + 1 < w4.heap.size + 1 := (by omega); have zw4_1 : ¬ w4.heap.size = w.heap.size + 1 := (by omega); have zv4_1 : ¬ w.heap.size + 1 = w4.heap.size := (by omega); have zu4_1 : w.heap.size + 1 < w4.heap.size + 1 + 1 := (by omega); have zt4_1 : ¬ w4.heap.size + 1 = w.heap.size + 1 := (by omega); have zr4_1 : ¬ w.heap.size + 1 = w4.heap.size + 1 := (by omega); have zx4_2 : w1.heap.size < w4.heap.size := (by first | omega | (simp at hzs4; omega)); have zy4_2 : w1.heap.size < w4.heap.size + 1 := (by omega); have zw4_2 : ¬ w4.heap.size = w1.heap.size := (by omega); have zv4_2 : ¬ w1.heap.size = w4.heap.size := (by omega); have zu4_2 : w1.heap.size < w4.heap.size + 1 + 1 := (by omega); have zt4_2 : ¬ w4.heap.size + 1 = w1.heap.size := (by omega); have zr4_2 : ¬ w1.heap.size = w4.heap.size + 1 := (by omega); have zx4_3 : w2.heap.size < w4.heap.size := (by first | omega | (simp at hzs4; omega)); have zy4_3 : w2.heap.size < w4.heap.size + 1 := (by omega); have zw4_3 : ¬ w4.heap.size = w2.heap.size := (by omega); have zv4_3 : ¬ w2.heap.size = w4.heap.size := (by omega); have zu4_3 : w2.heap.size < w4.heap.size + 1 + 1 := (by omega); have zt4_3 : ¬ w4.heap.size + 1 = w2.heap.size := (by omega); have zr4_3 : ¬ w2.heap.size = w4.heap.size + 1 := (by omega)
   have hzz4 := hg4.size
   have HT9 := hide ho9
   have HB9 := hide (And.intro (cell_grown hg4 n2g HB3.out.1) ((gfroz hg4 _ _ z23 n2g).trans HB3.out.2))
   have HC9 := hide (HC3.out.grown hg4 (by omega) n1g)
   have HO9 := hide (HO3.out.grown hg4 (by omega))
   have HRa9 := hide (mine_grow HRa3.out hg4 (by omega) nz0)
   have HRb9 := hide (mine_grow HRb3.out hg4 (by omega) nz2)
   have HG9 := hide (gr_step HG3.out hg4)
   have HS9 := hide hs4
   have z24 : w2.heap.size < w4.heap.size := by omega
   obtain ⟨m0, m1⟩ := HB9.out
   clear hc4 hf4 hg4 hs4 ho9 HB3 HT3 HC3 HO3 HRa3 HRb3 HG3 HS3
   go_wp2_with fail
   go_meet
   exact ⟨ax, ay, bx, bY, cx, cy, dx, dy, some ⟨b, 0, none⟩, n, cap, N, X, Y, S, Z, so9, n9, cap9, L9, rfl, hn9, by omega, by omega, u2', u3', hide ⟨cell_same m0, (World.frozen?_setCell _ _ _ _).trans m1⟩, hide ((HT9.out.far (by omega)).mono (Int.le_refl _) (by omega)), hide (HC9.out.far (by omega)), hide (HO9.out.off (by omega)), hide (Mine.set HRa9.out), hide (Mine.set HRb9.out), hide (Src.set (by dsimp only; omega) HS9.out), hide (gr_new HG9.out (by dsimp only; omega)), by simpa [World.setCell] using z24⟩
  have d0 : (x3 == 0) = false := beq_eq_false_iff_ne.2 e0
  by_cases e1 : x3 = 1
  ·subst e1
   go_wp2_with fail; (with_reducible refine (spec_l04DrawAny g _ HS3.out).mono ?_); rintro e w4 ⟨⟨ax9, ay9, bx9, bY9, cx9, cy9, dx9, dy9, so9, n9, cap9, N9, X9, Y9, S9, Z9, rfl, u1', u2', u3', uA, ho9⟩, hg4, hs4⟩; have hc4 := gcell hg4; have hf4 := gfroz hg4; have lg4 := Src.lt hs4; have nga4 : ¬ w4.heap.size = g := (by omega); have ngb4 : ¬ g = w4.heap.size := (by omega); have hzs4 := hg4.size; (try simp at hzs4); have zx4_0 : w.heap.size < w4.heap.size := (by first | omega | (simp at hzs4; omega)); have zy4_0 : w.heap.size < w4.heap.size + 1 := (by omega); have zw4_0 : ¬ w4.heap.size = w.heap.size := (by omega); have zv4_0 : ¬ w.heap.size = w4.heap.size := (by omega); have zu4_0 : w.heap.size < w4.heap.size + 1 + 1 := (by omega); have zt4_0 : ¬ w4.heap.size + 1 = w.heap.size := (by omega); have zr4_0 : ¬ w.heap.size = w4.heap.size + 1 := (by omega); have zx4_1 : w.heap.size + 1 < w4.heap.size := (by first | omega | (simp at hzs4; omega)); have zy4_1 : w.heap.size + 1 < w4.heap.size + 1 := (by omega); have zw4_1 : ¬ w4.heap.size = w.heap.size + 1 := (by omega); have zv4_1 : ¬ w.heap.size + 1 = w4.heap.size := (by omega); have zu4_1 : w.heap.size + 1 < w4.heap.size + 1 + 1 := (by omega); have zt4_1 : ¬ w4.heap.size + 1 = w.heap.size + 1 := (by omega); have zr4_1 : ¬ w.heap.size + 1 = w4.heap.size + 1 := (by omega); have zx4_2 : w1.heap.size < w4.heap.size := (by first | omega | (simp at hzs4; omega)); have zy4_2 : w1.heap.size < w4.heap.size + 1 := (by omega); have zw4_2 : ¬ w4.heap.size = w1.heap.size := (by omega); have zv4_2 : ¬ w1.heap.size = w4.heap.size := (by omega); have zu4_2 : w1.heap.size < w4.heap.size + 1 + 1 := (by omega); have zt4_2 : ¬ w4.heap.size + 1 = w1.heap.size := (by omega); have zr4_2 : ¬ w1.heap.size = w4.heap.size + 1 := (by omega); have zx4_3 : w2.heap.size < w4.heap.size := (by first | omega | (simp at hzs4; omega)); have zy4_3 : w2.heap.size < w4.heap.size + 1 := (by omega); have zw4_3 : ¬ w4.heap.size = w2.heap.size := (by omega); have zv4_3 : ¬ w2.heap.size = w4.heap.size := (by omega); have zu4_3 : w2.heap.size < w4.heap.size + 1 + 1 := (by omega); have zt4_3 : ¬ w4.heap.size + 1 = w2.heap.size := (by omega); have zr4_3 : ¬ w2.heap.size = w4.heap.size + 1 := (by omega)
   have hzz4 := hg4.size
   have HO9 := hide ho9
   have HB9 := hide (And.intro (cell_grown hg4 n2g HB3.out.1) ((gfroz hg4 _ _ z23 n2g).trans HB3.out.2))
   have HT9 := hide (HT3.out.grown hg4 (by omega))
   have HC9 := hide (HC3.out.grown hg4 (by omega) n1g)
   have HRa9 := hide (mine_grow HRa3.out hg4 (by omega) nz0)
   have HRb9 := hide (mine_grow HRb3.out hg4 (by omega) nz2)
   have HG9 := hide (gr_step HG3.out hg4)
   have HS9 := hide hs4
   have z24 : w2.heap.size < w4.heap.size := by omega
   have z14 : w1.heap.size < w4.heap.size := by omega
   obtain ⟨c0, c1, c2, c3, c4, c5, c6, c7, c8, f0, f1, f2, f3, f4, f5, f6, f7, f8⟩ := HC9.out
   clear hc4 hf4 hg4 hs4 ho9 HB3 HT3 HC3 HO3 HRa3 HRb3 HG3 HS3
   go_wp2_with fail
   go_meet
   obtain ⟨wZ, hZ⟩ : ∃ x, x = ((((((((w4.setCell ⟨w1.heap.size, 0, none⟩ (.int .i64 ax9)).setCell ⟨w1.heap.size, 1, none⟩ (.int .i64 ay9)).setCell ⟨w1.heap.size, 2, none⟩ (.int .i64 bx9)).setCell ⟨w1.heap.size, 3, none⟩ (.int .i64 bY9)).setCell ⟨w1.heap.size, 4, none⟩ (.int .i64 cx9)).setCell ⟨w1.heap.size, 5, none⟩ (.int .i64 cy9)).setCell ⟨w1.heap.size, 6, none⟩ (.int .i64 dx9)).setCell ⟨w1.heap.size, 7, none⟩ (.int .i64 dy9)).setCell ⟨w1.heap.size, 8, none⟩ (.slice so9 n9 cap9) := ⟨_, rfl⟩
   have HP : Spot w1.heap.size w4 wZ := by rw [hZ]; exact (((((((((Spot.refl _ _).set).set).set).set).set).set).set).set).set
   have HCZ := hide (show CoB wZ w1.heap.size ax9 ay9 bx9 bY9 cx9 cy9 dx9 dy9 so9 n9 cap9 by rw [hZ]; exact HC9.out.put2)
   rw [← hZ]
   have y31 : ¬ w2.heap.size = w1.heap.size := by omega
   have y01 : ¬ w.heap.size = w1.heap.size := by omega
   have y11 : ¬ w.heap.size + 1 = w1.heap.size := by omega
   have zZ := HP.size
   clear hZ
   exact ⟨ax9, ay9, bx9, bY9, cx9, cy9, dx9, dy9, so9, n9, cap9, N9, X9, Y9, S9, Z9, so2, n2, cap2, L2, rfl, u2', u3', by omega, by omega, u3, hide ⟨(HP.cell y31).trans HB9.out.1, (HP.froz' _ _).trans HB9.out.2⟩, hide (HT9.out.spot2 HP (by omega)), HCZ, hide ((HO9.out.spot2 HP (by omega)).mono (by omega)), hide (HP.mine y01 HRa9.out), hide (HP.mine y11 HRb9.out), hide (HP.src (by omega) HS9.out), hide (HP.grow (by omega) HG9.out), by omega⟩
  have d1 : (x3 == 1) = false := beq_eq_false_iff_ne.2 e1
  go_wp2_with fail
  go_meet
  exact ⟨ax, ay, bx, bY, cx, cy, dx, dy, some ⟨b, 0, none⟩, n, cap, N, X, Y, S, Z, so2, n2, cap2, L2, rfl, hn9, by omega, by omega, by omega, u3, HB3, HT3, HC3, HO3, HRa3, HRb3, HS3, HG3, z23⟩
 case rest =>
  clear HB3 HT3 HC3 HO3 HRa3 HRb3 HG3 HS3
  clear hn9 u1 u2 u3
  obtain ⟨ax, ay, bx, bY, cx, cy, dx, dy, so, n, cap, N, X, Y, S, Z, so2, n2, cap2, Lt, rfl, hn9, hnc, hn2a, hn2b, hn2c, HB, HT, HC, HO, HRa, HRb, HS, HG, zc3⟩ := hcut
  obtain ⟨c0, c1, c2, c3, c4, c5, c6, c7, c8, f0, f1, f2, f3, f4, f5, f6, f7, f8⟩ := HC.out
  obtain ⟨m0, m1⟩ := HB.out
  obtain ⟨v0, cy0, fy0⟩ := HRa.out.cells 0 (by decide)
  obtain ⟨v1, cy1, fy1⟩ := HRa.out.cells 1 (by decide)
  obtain ⟨v2, cy2, fy2⟩ := HRa.out.cells 2 (by decide)
  obtain ⟨v3, cy3, fy3⟩ := HRa.out.cells 3 (by decide)
  obtain ⟨v4, cy4, fy4⟩ := HRa.out.cells 4 (by decide)
  obtain ⟨v5, cy5, fy5⟩ := HRa.out.cells 5 (by decide)
  obtain ⟨v6, cy6, fy6⟩ := HRa.out.cells 6 (by decide)
  obtain ⟨v7, cy7, fy7⟩ := HRa.out.cells 7 (by decide)
  obtain ⟨v8, cy8, fy8⟩ := HRa.out.cells 8 (by decide)
  obtain ⟨vt, cyt, fyt⟩ := HRb.out.cells 0 (by decide)
  have hgr := HG.out
  have hsr := HS.out
  have n1w : ¬ w1.heap.size = w.heap.size := by omega
  have n2w : ¬ w.heap.size = w1.heap.size := by omega
  have n3w : ¬ w2.heap.size = w.heap.size := by omega
  have n4w : ¬ w.heap.size = w2.heap.size := by omega
  have n5w : ¬ w2.heap.size = w.heap.size + 1 := by omega
  have n6w : ¬ w.heap.size + 1 = w2.heap.size := by omega
  go_upto_region 8 with fail
  go_region
  all_goals
   go_wp2
   simp [bodyPost, results, Tryz.results67, go_sem, *]
   exact ⟨⟨_, _, _, _, _, _, _, _, so, n, cap, N, X, Y, S, Z, so2, n2, cap2, Lt, rfl, hn9, hnc, by refine OwnM.mono (B := w.heap.size + 2) ?_ (by omega); (repeat (first | with_reducible refine OwnM.far ?_ (by omega) | with_reducible refine OwnM.drew2 ?_)); exact HO.out, by omega, hn2b, hn2c, by refine OwnI.mono (M := 2000000000) (B := w1.heap.size + 1) ?_ (Int.le_refl _) (by omega); (repeat (first | with_reducible refine OwnI.far ?_ (by omega) | with_reducible refine OwnI.drew2 ?_)); exact HT.out⟩, gwz, swz⟩
end Go.Proofs.YtgcdgdnmcdffoaaGreatDoor
