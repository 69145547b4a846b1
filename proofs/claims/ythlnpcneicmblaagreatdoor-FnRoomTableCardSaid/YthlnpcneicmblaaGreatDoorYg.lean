/- Walks: a course, a mark and a track are drawn. -/
import Derived.Test.YthlnpcneicmblaaGreatDoorYe
import Derived.Test.YthlnpcneicmblaaGreatDoorYf
import Derived.Deep.Cut
import Derived.Deep.DeepCutAuto
import Derived.Deep.CutBlock
import Derived.Deep.AppendLies
namespace Go.Proofs.YthlnpcneicmblaaGreatDoor
open Go.RowKit

/-- A fix of a row that is known. -/
def FFx (b n : Nat) (v : Value) (_W : World) : Prop := ∃ x : Nat, v = .pointer (some ⟨b, x * 3, none⟩) ∧ x < n
theorem FFx.later {b n : Nat} {v : Value} {W W' : World} {g : Nat} (_hg : W.grownBy W' (some g)) (h : FFx b n v W) : FFx b n v W' := h
theorem fix_pre {w W : World} {b n x g : Nat} {L : List Int} (h : ∀ j, j < n * 3 → w.cell? ⟨b, j, none⟩ = some (.int .i64 (L[j]?.getD 0)) ∧ w.frozen? ⟨b, j, none⟩ = false) (hg : w.grownBy W (some g)) (hb : ¬ b = g) (hx : x < n) :
 W.cell? ⟨b, x * 3, none⟩ = some (.int .i64 (L[x * 3]?.getD 0)) ∧ W.cell? ⟨b, x * 3 + 1, none⟩ = some (.int .i64 (L[x * 3 + 1]?.getD 0)) ∧ W.cell? ⟨b, x * 3 + 2, none⟩ = some (.int .i64 (L[x * 3 + 2]?.getD 0)) :=
 ⟨cell_grown hg hb (h _ (by omega)).1, cell_grown hg hb (h _ (by omega)).1, cell_grown hg hb (h _ (by omega)).1⟩
theorem CoB.put {W : World} {b : Nat} {ax ay bx bY cx cy dx dy : Int} {so : Option Addr} {n cap : Nat} {vx vy ux uy px py qx qy : Int} {so' : Option Addr} {n' cap' : Nat} (h : CoB W b ax ay bx bY cx cy dx dy so n cap) :
 CoB (((((((((W.setCell ⟨b, 0, none⟩ (.int .i64 vx)).setCell ⟨b, 1, none⟩ (.int .i64 vy)).setCell ⟨b, 2, none⟩ (.int .i64 ux)).setCell ⟨b, 3, none⟩ (.int .i64 uy)).setCell ⟨b, 4, none⟩ (.int .i64 px)).setCell ⟨b, 5, none⟩ (.int .i64 py)).setCell ⟨b, 6, none⟩ (.int .i64 qx)).setCell ⟨b, 7, none⟩ (.int .i64 qy)).setCell ⟨b, 8, none⟩ (.slice so' n' cap')) b vx vy ux uy px py qx qy so' n' cap' := by
 obtain ⟨c0, c1, c2, c3, c4, c5, c6, c7, c8, f0, f1, f2, f3, f4, f5, f6, f7, f8⟩ := h
 exact ⟨by go_simp, by go_simp, by go_simp, by go_simp, by go_simp, by go_simp, by go_simp, by go_simp, by go_simp, by go_simp, by go_simp, by go_simp, by go_simp, by go_simp, by go_simp, by go_simp, by go_simp, by go_simp⟩
theorem OwnI.spot {c b : Nat} {M : Int} {W W' : World} {B : Nat} {L : List Int} {n : Nat} {so : Option Addr} (h : OwnI c M W B L n so) (hp : Spot b W W') (hb : b < B) : OwnI c M W' B L n so := by
 obtain ⟨h0, hM, ⟨rfl, h2⟩ | ⟨g', rfl, h3, h4, h5⟩⟩ := h
 ·exact ⟨h0, hM, .inl ⟨rfl, h2⟩⟩
 ·exact ⟨h0, hM, .inr ⟨g', rfl, h3, by rw [hp.size]; exact h4, fun k hk => ⟨(hp.cell (by omega)).trans (h5 k hk).1, (hp.froz' _ _).trans (h5 k hk).2⟩⟩⟩
theorem OwnM.spot {b : Nat} {W W' : World} {B n : Nat} {N : Nat → ByteArray} {X Y S Z : Nat → Int} {so : Option Addr} (h : OwnM W B N X Y S Z n so) (hp : Spot b W W') (hb : b < B) : OwnM W' B N X Y S Z n so := by
 rcases h with h | ⟨g', rfl, h3, h4, h5⟩
 ·exact .inl h
 ·exact .inr ⟨g', rfl, h3, by rw [hp.size]; exact h4, fun i hi j hj => ⟨(hp.cell (by omega)).trans (h5 i hi j hj).1, (hp.froz' _ _).trans (h5 i hi j hj).2⟩⟩
theorem OwnI.drew' {c : Nat} {M : Int} {W : World} {B : Nat} {L : List Int} {n : Nat} {so : Option Addr} (h : OwnI c M W B L n so) : OwnI c M W.drew B L n so := h
theorem OwnM.drew' {W : World} {B n : Nat} {N : Nat → ByteArray} {X Y S Z : Nat → Int} {so : Option Addr} (h : OwnM W B N X Y S Z n so) : OwnM W.drew B N X Y S Z n so := h
/-- What a draw of a course, a mark and a track returns. -/
def CkC (w : World) (g : Nat) (e : Ending) (w' : World) : Prop :=
 (∃ (ax ay bx bY cx cy dx dy : Int) (so : Option Addr) (n cap : Nat) (N : Nat → ByteArray) (X Y S Z : Nat → Int) (k : Int) (so2 : Option Addr) (n2 cap2 : Nat) (Lt : List Int), e = .returned (.tuple #[.agg #[.int .i64 ax, .int .i64 ay, .int .i64 bx, .int .i64 bY, .int .i64 cx, .int .i64 cy, .int .i64 dx, .int .i64 dy, .slice so n cap], .int .i64 k, .agg #[.slice so2 n2 cap2]]) ∧ n ≤ 9 ∧ n ≤ cap ∧ OwnM w' w.heap.size N X Y S Z n so ∧ 1 ≤ n2 ∧ n2 ≤ 41 ∧ n2 ≤ cap2 ∧ OwnI 3 2000000000 w' w.heap.size Lt n2 so2) ∧ w.grownBy w' (some g) ∧ Src w' g
set_option maxRecDepth 100000 in
set_option maxHeartbeats 16000000 in
theorem spec_l07Draw (g : Nat) (w : World) (h : Src w g) : Calls Tryz.prog 24 #[.pointer (some ⟨g, 0, none⟩)] w (CkC w g) := by
 have ng := Src.lt h
 have nz0 : ¬ w.heap.size = g := by omega
 have nz1 : ¬ g = w.heap.size := by omega
 have nz2 : ¬ w.heap.size + 1 = g := by omega
 obtain ⟨i0, hi, hz0, hz1, hz2⟩ := info_parts infoFix
 have Hi := hide hi
 have Hz := hide (And.intro hz0 (And.intro hz1 hz2))
 clear hi hz0 hz1 hz2
 go_enter Tryz.func24, Tryz.ntmps24
 go_wp2_with fail; (with_reducible refine (spec_l04Draw g _ swz).mono ?_); rintro e w1 ⟨⟨ax, ay, bx, bY, cx, cy, dx, dy, so, n, cap, N, X, Y, S, Z, rfl, q1, q2, q3, hA, ho⟩, hg1, hs1⟩; have hc1 := gcell hg1; have hf1 := gfroz hg1; have lg1 := Src.lt hs1; have nga1 : ¬ w1.heap.size = g := (by omega); have ngb1 : ¬ g = w1.heap.size := (by omega); have hzs1 := hg1.size; (try simp at hzs1); have zx1_0 : w.heap.size < w1.heap.size := (by first | omega | (simp at hzs1; omega)); have zy1_0 : w.heap.size < w1.heap.size + 1 := (by omega); have zw1_0 : ¬ w1.heap.size = w.heap.size := (by omega); have zv1_0 : ¬ w.heap.size = w1.heap.size := (by omega); have zu1_0 : w.heap.size < w1.heap.size + 1 + 1 := (by omega); have zt1_0 : ¬ w1.heap.size + 1 = w.heap.size := (by omega); have zr1_0 : ¬ w.heap.size = w1.heap.size + 1 := (by omega); have zx1_1 : w.heap.size + 1 < w1.heap.size := (by first | omega | (simp at hzs1; omega)); have zy1_1 : w.heap.size + 1 < w1.heap.size + 1 := (by omega); have zw1_1 : ¬ w1.heap.size = w.heap.size + 1 := (by omega); have zv1_1 : ¬ w.heap.size + 1 = w1.heap.size := (by omega); have zu1_1 : w.heap.size + 1 < w1.heap.size + 1 + 1 := (by omega); have zt1_1 : ¬ w1.heap.size + 1 = w.heap.size + 1 := (by omega); have zr1_1 : ¬ w.heap.size + 1 = w1.heap.size + 1 := (by omega)
 simp only [size_al] at ho
 obtain ⟨b, rfl, hbB, hbl, _⟩ := ho.blk (by omega)
 have hzz1 := hg1.size
 simp only [size_al] at hzz1
 have HO1 := hide (ho.mono (show w.heap.size + 2 ≤ w.heap.size + 1 + 1 by omega))
 have HRa := hide (mine_grow (Mine.later (Below.alloc (Below.refl _ _) (Nat.le_refl _) (.cells #[.slice none 0 0] 45)) (mine_make (w := w) (c := #[.int .i64 0, .int .i64 0, .int .i64 0, .int .i64 0, .int .i64 0, .int .i64 0, .int .i64 0, .int .i64 0, .slice none 0 0]) (t := 31) (m := 9) rfl)) hg1 (by simp; omega) (by omega))
 have HRb := hide (mine_grow (mine_make (w := w.alloc (.cells #[.int .i64 0, .int .i64 0, .int .i64 0, .int .i64 0, .int .i64 0, .int .i64 0, .int .i64 0, .int .i64 0, .slice none 0 0] 31)) (c := #[.slice none 0 0]) (t := 45) (m := 1) rfl) hg1 (by simp) (by simp; omega))
 simp only [size_al] at HRa HRb
 have HG1 := hide (show w.grownBy w1 (some g) from gwz)
 have HS1 := hide hs1
 have hn1 : 1 ≤ n := by omega
 have hn9 : n ≤ 9 := by omega
 have n1g : ¬ w1.heap.size = g := by omega
 have zw0 : w.heap.size < w1.heap.size := by omega
 have zw1 : w.heap.size + 1 < w1.heap.size := by omega
 have nbg : ¬ b = g := by omega
 have nb0 : ¬ b = w.heap.size := by omega
 have nb1 : ¬ b = w.heap.size + 1 := by omega
 clear ho hA q1 q2 hc1 hf1 hg1 hs1
 go_wp2_with fail; (with_reducible refine (spec_l01NextP g n _ (Src.alloc HS1.out _) (by omega) (by omega)).mono ?_); rintro e w2 ⟨⟨j, rfl, hjn⟩, hg2, hs2⟩; have hc2 := gcell hg2; have hf2 := gfroz hg2; have lg2 := Src.lt hs2; have nga2 : ¬ w2.heap.size = g := (by omega); have ngb2 : ¬ g = w2.heap.size := (by omega); have hzs2 := hg2.size; (try simp at hzs2); have zx2_0 : w.heap.size < w2.heap.size := (by first | omega | (simp at hzs2; omega)); have zy2_0 : w.heap.size < w2.heap.size + 1 := (by omega); have zw2_0 : ¬ w2.heap.size = w.heap.size := (by omega); have zv2_0 : ¬ w.heap.size = w2.heap.size := (by omega); have zu2_0 : w.heap.size < w2.heap.size + 1 + 1 := (by omega); have zt2_0 : ¬ w2.heap.size + 1 = w.heap.size := (by omega); have zr2_0 : ¬ w.heap.size = w2.heap.size + 1 := (by omega); have zx2_1 : w.heap.size + 1 < w2.heap.size := (by first | omega | (simp at hzs2; omega)); have zy2_1 : w.heap.size + 1 < w2.heap.size + 1 := (by omega); have zw2_1 : ¬ w2.heap.size = w.heap.size + 1 := (by omega); have zv2_1 : ¬ w.heap.size + 1 = w2.heap.size := (by omega); have zu2_1 : w.heap.size + 1 < w2.heap.size + 1 + 1 := (by omega); have zt2_1 : ¬ w2.heap.size + 1 = w.heap.size + 1 := (by omega); have zr2_1 : ¬ w.heap.size + 1 = w2.heap.size + 1 := (by omega); have zx2_2 : w1.heap.size < w2.heap.size := (by first | omega | (simp at hzs2; omega)); have zy2_2 : w1.heap.size < w2.heap.size + 1 := (by omega); have zw2_2 : ¬ w2.heap.size = w1.heap.size := (by omega); have zv2_2 : ¬ w1.heap.size = w2.heap.size := (by omega); have zu2_2 : w1.heap.size < w2.heap.size + 1 + 1 := (by omega); have zt2_2 : ¬ w2.heap.size + 1 = w1.heap.size := (by omega); have zr2_2 : ¬ w1.heap.size = w2.heap.size + 1 := (by omega)
 have hzz2 := hg2.size
 simp only [size_al] at hzz2
 have HC2 := hide (show CoB w2 w1.heap.size ax ay bx bY cx cy dx dy (some ⟨b, 0, none⟩) n cap from ⟨by go_simp, by go_simp, by go_simp, by go_simp, by go_simp, by go_simp, by go_simp, by go_simp, by go_simp, by go_simp, by go_simp, by go_simp, by go_simp, by go_simp, by go_simp, by go_simp, by go_simp, by go_simp⟩)
 have hal := Below.alloc (Below.refl w1.heap.size w1) (Nat.le_refl _) (.cells #[.int .i64 ax, .int .i64 ay, .int .i64 bx, .int .i64 bY, .int .i64 cx, .int .i64 cy, .int .i64 dx, .int .i64 dy, .slice (some ⟨b, 0, none⟩) n cap] 31)
 have HO2 := hide ((HO1.out.later hal).grown hg2 (by omega))
 have HRa2 := hide (mine_grow (Mine.later hal HRa.out) hg2 (by simp; omega) nz0)
 have HRb2 := hide (mine_grow (Mine.later hal HRb.out) hg2 (by simp; omega) nz2)
 have HG2 := hide (show w.grownBy w2 (some g) from gr_step (gr_alloc HG1.out _) hg2)
 have HS2 := hide hs2
 clear hal hc2 hf2 hg2 hs2 HO1 HRa HRb HG1 HS1
 go_wp2_with fail; (with_reducible refine (spec_l03Draw g _ HS2.out).mono ?_); rintro e w3 ⟨⟨so3, n3, cap3, L3, rfl, t1, t2, t3, ho3⟩, hg3, hs3⟩; have hc3 := gcell hg3; have hf3 := gfroz hg3; have lg3 := Src.lt hs3; have nga3 : ¬ w3.heap.size = g := (by omega); have ngb3 : ¬ g = w3.heap.size := (by omega); have hzs3 := hg3.size; (try simp at hzs3); have zx3_0 : w.heap.size < w3.heap.size := (by first | omega | (simp at hzs3; omega)); have zy3_0 : w.heap.size < w3.heap.size + 1 := (by omega); have zw3_0 : ¬ w3.heap.size = w.heap.size := (by omega); have zv3_0 : ¬ w.heap.size = w3.heap.size := (by omega); have zu3_0 : w.heap.size < w3.heap.size + 1 + 1 := (by omega); have zt3_0 : ¬ w3.heap.size + 1 = w.heap.size := (by omega); have zr3_0 : ¬ w.heap.size = w3.heap.size + 1 := (by omega); have zx3_1 : w.heap.size + 1 < w3.heap.size := (by first | omega | (simp at hzs3; omega)); have zy3_1 : w.heap.size + 1 < w3.heap.size + 1 := (by omega); have zw3_1 : ¬ w3.heap.size = w.heap.size + 1 := (by omega); have zv3_1 : ¬ w.heap.size + 1 = w3.heap.size := (by omega); have zu3_1 : w.heap.size + 1 < w3.heap.size + 1 + 1 := (by omega); have zt3_1 : ¬ w3.heap.size + 1 = w.heap.size + 1 := (by omega); have zr3_1 : ¬ w.heap.size + 1 = w3.heap.size + 1 := (by omega); have zx3_2 : w1.heap.size < w3.heap.size := (by first | omega | (simp at hzs3; omega)); have zy3_2 : w1.heap.size < w3.heap.size + 1 := (by omega); have zw3_2 : ¬ w3.heap.size = w1.heap.size := (by omega); have zv3_2 : ¬ w1.heap.size = w3.heap.size := (by omega); have zu3_2 : w1.heap.size < w3.heap.size + 1 + 1 := (by omega); have zt3_2 : ¬ w3.heap.size + 1 = w1.heap.size := (by omega); have zr3_2 : ¬ w1.heap.size = w3.heap.size + 1 := (by omega)
 have hzz3 := hg3.size
 have HT3 := hide (ho3.mono (show (20000 : Int) ≤ 2000000000 by decide) (show w1.heap.size + 1 ≤ w2.heap.size by omega))
 have HC3 := hide (HC2.out.grown hg3 (by omega) n1g)
 have HO3 := hide (HO2.out.grown hg3 (by omega))
 have HRa3 := hide (mine_grow HRa2.out hg3 (by omega) nz0)
 have HRb3 := hide (mine_grow HRb2.out hg3 (by omega) nz2)
 have HG3 := hide (gr_step HG2.out hg3)
 have HS3 := hide hs3
 have n3g : ¬ w3.heap.size = g := by omega
 have z13 : w1.heap.size < w3.heap.size := by omega
 have z03 : w.heap.size + 1 < w3.heap.size := by omega
 have nb3 : b < w3.heap.size := by omega
 clear ho3 hc3 hf3 hg3 hs3 HC2 HO2 HRa2 HRb2 HG2 HS2
 go_wp2_with fail; (with_reducible refine (spec_l01NextN g 2 2 _ (Src.alloc HS3.out _) (by decide) (by decide) (by decide)).mono ?_); rintro e w4 ⟨⟨x4, rfl, hx4⟩, hg4, hs4⟩; have hc4 := gcell hg4; have hf4 := gfroz hg4; have lg4 := Src.lt hs4; have nga4 : ¬ w4.heap.size = g := (by omega); have ngb4 : ¬ g = w4.heap.size := (by omega); have hzs4 := hg4.size; (try simp at hzs4); have zx4_0 : w.heap.size < w4.heap.size := (by first | omega | (simp at hzs4; omega)); have zy4_0 : w.heap.size < w4.heap.size + 1 := (by omega); have zw4_0 : ¬ w4.heap.size = w.heap.size := (by omega); have zv4_0 : ¬ w.heap.size = w4.heap.size := (by omega); have zu4_0 : w.heap.size < w4.heap.size + 1 + 1 := (by omega); have zt4_0 : ¬ w4.heap.size + 1 = w.heap.size := (by omega); have zr4_0 : ¬ w.heap.size = w4.heap.size + 1 := (by omega); have zx4_1 : w.heap.size + 1 < w4.heap.size := (by first | omega | (simp at hzs4; omega)); have zy4_1 : w.heap.size + 1 < w4.heap.size + 1 := (by omega); have zw4_1 : ¬ w4.heap.size = w.heap.size + 1 := (by omega); have zv4_1 : ¬ w.heap.size + 1 = w4.heap.size := (by omega); have zu4_1 : w.heap.size + 1 < w4.heap.size + 1 + 1 := (by omega); have zt4_1 : ¬ w4.heap.size + 1 = w.heap.size + 1 := (by omega); have zr4_1 : ¬ w.heap.size + 1 = w4.heap.size + 1 := (by omega); have zx4_2 : w1.heap.size < w4.heap.size := (by first | omega | (simp at hzs4; omega)); have zy4_2 : w1.heap.size < w4.heap.size + 1 := (by omega); have zw4_2 : ¬ w4.heap.size = w1.heap.size := (by omega); have zv4_2 : ¬ w1.heap.size = w4.heap.size := (by omega); have zu4_2 : w1.heap.size < w4.heap.size + 1 + 1 := (by omega); have zt4_2 : ¬ w4.heap.size + 1 = w1.heap.size := (by omega); have zr4_2 : ¬ w1.heap.size = w4.heap.size + 1 := (by omega); have zx4_3 : w3.heap.size < w4.heap.size := (by first | omega | (simp at hzs4; omega)); have zy4_3 : w3.heap.size < w4.heap.size + 1 := (by omega); have zw4_3 : ¬ w4.heap.size = w3.heap.size := (by omega); have zv4_3 : ¬ w3.heap.size = w4.heap.size := (by omega); have zu4_3 : w3.heap.size < w4.heap.size + 1 + 1 := (by omega); have zt4_3 : ¬ w4.heap.size + 1 = w3.heap.size := (by omega); have zr4_3 : ¬ w3.heap.size = w4.heap.size + 1 := (by omega)
 have hzz4 := hg4.size
 simp only [size_al] at hzz4
 have hal := Below.alloc (Below.refl w3.heap.size w3) (Nat.le_refl _) (.cells #[.slice so3 n3 cap3] 45)
 have HB4 := hide (show w4.cell? ⟨w3.heap.size, 0, none⟩ = some (.slice so3 n3 cap3) ∧ w4.frozen? ⟨w3.heap.size, 0, none⟩ = false from ⟨by go_simp, by go_simp⟩)
 have HT4 := hide ((HT3.out.later hal).grown hg4 (by omega))
 have HC4 := hide ((HC3.out.later hal).grown hg4 (by simp; omega) n1g)
 have HO4 := hide ((HO3.out.later hal).grown hg4 (by omega))
 have HRa4 := hide (mine_grow (Mine.later hal HRa3.out) hg4 (by simp; omega) nz0)
 have HRb4 := hide (mine_grow (Mine.later hal HRb3.out) hg4 (by simp; omega) nz2)
 have HG4 := hide (gr_step (gr_alloc HG3.out _) hg4)
 have HS4 := hide hs4
 have z34 : w3.heap.size < w4.heap.size := by omega
 clear hal hc4 hf4 hg4 hs4 HT3 HC3 HO3 HRa3 HRb3 HG3 HS3
 go_upto_if 24 with fail
 go_cut [24] (fun s W => ∃ (so2 : Option Addr) (n2 cap2 : Nat) (Lt : List Int), 2 ≤ n2 ∧ n2 ≤ 41 ∧ n2 ≤ cap2 ∧ Hid (W.cell? ⟨w3.heap.size, 0, none⟩ = some (.slice so2 n2 cap2) ∧ W.frozen? ⟨w3.heap.size, 0, none⟩ = false) ∧ Hid (OwnI 3 2000000000 W (w1.heap.size + 1) Lt n2 so2) ∧ Hid (CoB W w1.heap.size ax ay bx bY cx cy dx dy (some ⟨b, 0, none⟩) n cap) ∧ Hid (OwnM W (w.heap.size + 2) N X Y S Z n (some ⟨b, 0, none⟩)) ∧ Hid (Mine W w.heap.size 9) ∧ Hid (Mine W (w.heap.size + 1) 1) ∧ Hid (Src W g) ∧ Hid (w.grownBy W (some g)) ∧ w3.heap.size < W.heap.size)
 case first =>
  by_cases h4 : x4 = 0
  ·subst h4
   obtain ⟨c0, c1, c2, c3, c4, c5, c6, c7, c8, f0, f1, f2, f3, f4, f5, f6, f7, f8⟩ := HC4.out
   obtain ⟨m0, m1⟩ := HB4.out
   go_wp2_with fail; (with_reducible refine (spec_l06DrawSail ax ay bx bY cx cy dx dy (some ⟨b, 0, none⟩) n cap N X Y S Z g _ HS4.out (fun W hg => (HO4.out.grown hg (by omega)).row) (by omega)).mono ?_); rintro e w5 ⟨⟨so5, n5, cap5, L5, rfl, u1, u2, u3, ho5⟩, hg5, hs5⟩; have hc5 := gcell hg5; have hf5 := gfroz hg5; have lg5 := Src.lt hs5; have nga5 : ¬ w5.heap.size = g := (by omega); have ngb5 : ¬ g = w5.heap.size := (by omega); have hzs5 := hg5.size; (try simp at hzs5); have zx5_0 : w.heap.size < w5.heap.size := (by first | omega | (simp at hzs5; omega)); have zy5_0 : w.heap.size < w5.heap.size + 1 := (by omega); have zw5_0 : ¬ w5.heap.size = w.heap.size := (by omega); have zv5_0 : ¬ w.heap.size = w5.heap.size := (by omega); have zu5_0 : w.heap.size < w5.heap.size + 1 + 1 := (by omega); have zt5_0 : ¬ w5.heap.size + 1 = w.heap.size := (by omega); have zr5_0 : ¬ w.heap.size = w5.heap.size + 1 := (by omega); have zx5_1 : w.heap.size + 1 < w5.heap.size := (by first | omega | (simp at hzs5; omega)); have zy5_1 : w.heap.size + 1 < w5.heap.size + 1 := (by omega); have zw5_1 : ¬ w5.heap.size = w.heap.size + 1 := (by omega); have zv5_1 : ¬ w.heap.size + 1 = w5.heap.size := (by omega); have zu5_1 : w.heap.size + 1 < w5.heap.size + 1 + 1 := (by omega); have zt5_1 : ¬ w5.heap.size + 1 = w.heap.size + 1 := (by omega); have zr5_1 : ¬ w.heap.size + 1 = w5.heap.size + 1 := (by omega); have zx5_2 : w1.heap.size < w5.heap.size := (by first | omega | (simp at hzs5; omega)); have zy5_2 : w1.heap.size < w5.heap.size + 1 := (by omega); have zw5_2 : ¬ w5.heap.size = w1.heap.size := (by omega); have zv5_2 : ¬ w1.heap.size = w5.heap.size := (by omega); have zu5_2 : w1.heap.size < w5.heap.size + 1 + 1 := (by omega); have zt5_2 : ¬ w5.heap.size + 1 = w1.heap.size := (by omega); have zr5_2 : ¬ w1.heap.size = w5.heap.size + 1 := (by omega); have zx5_3 : w3.heap.size < w5.heap.size := (by first | omega | (simp at hzs5; omega)); have zy5_3 : w3.heap.size < w5.heap.size + 1 := (by omega); have zw5_3 : ¬ w5.heap.size = w3.heap.size := (by omega); have zv5_3 : ¬ w3.heap.size = w5.heap.size := (by omega); have zu5_3 : w3.heap.size < w5.heap.size + 1 + 1 := (by omega); have zt5_3 : ¬ w5.heap.size + 1 = w3.heap.size := (by omega); have zr5_3 : ¬ w3.heap.size = w5.heap.size + 1 := (by omega)
   have hzz5 := hg5.size
   have HT5 := hide (ho5.mono (show (40000 : Int) ≤ 2000000000 by decide) (show w4.heap.size ≤ w4.heap.size by omega))
   have HC5 := hide (HC4.out.grown hg5 (by omega) n1g)
   have HO5 := hide (HO4.out.grown hg5 (by omega))
   have HRa5 := hide (mine_grow HRa4.out hg5 (by omega) nz0)
   have HRb5 := hide (mine_grow HRb4.out hg5 (by omega) nz2)
   have HG5 := hide (gr_step HG4.out hg5)
   have HS5 := hide hs5
   have m2 := cell_grown hg5 n3g m0
   have m3 := (gfroz hg5 _ _ z34 n3g).trans m1
   clear ho5 hc5 hf5 hg5 hs5 c0 f0 c1 f1 c2 f2 c3 f3 c4 f4 c5 f5 c6 f6 c7 f7 c8 f8 m0 m1
   go_wp2_with fail
   go_meet
   refine ⟨so5, n5, cap5, L5, by omega, by omega, u3, hide ⟨cell_same m2, (World.frozen?_setCell _ _ _ _).trans m3⟩, hide ((HT5.out.far (by omega)).mono (Int.le_refl _) (by omega)), hide (HC5.out.far (by omega)), hide (HO5.out.off (by omega)), hide (Mine.set HRa5.out), hide (Mine.set HRb5.out), hide (Src.set (by dsimp only; omega) HS5.out), hide (gr_new HG5.out (by dsimp only; omega)), by simpa [World.setCell] using (show w3.heap.size < w5.heap.size by omega)⟩
  ·have h4b : (x4 == 0) = false := beq_eq_false_iff_ne.2 h4
   go_wp2_with fail
   go_meet
   exact ⟨so3, n3, cap3, L3, t1, by omega, t3, HB4, HT4, HC4, HO4, HRa4, HRb4, HS4, HG4, z34⟩
 case rest =>
  clear HB4 HT4 HC4 HO4 HRa4 HRb4 HS4 HG4
  obtain ⟨so2, n2, cap2, Lt, hn2a, hn2b, hn2c, HB, HT, HC, HO, HRa, HRb, HS, HG, zc3⟩ := hcut
  obtain ⟨wK, rfl⟩ : ∃ x : World, x = wc := ⟨_, rfl⟩
  have lgK := Src.lt HS.out
  go_wp2_with fail; (with_reducible refine (spec_l01NextN g 3 3 _ HS.out (by decide) (by decide) (by decide)).mono ?_); rintro e w6 ⟨⟨x6, rfl, hx6⟩, hg6, hs6⟩; have hc6 := gcell hg6; have hf6 := gfroz hg6; have lg6 := Src.lt hs6; have nga6 : ¬ w6.heap.size = g := (by omega); have ngb6 : ¬ g = w6.heap.size := (by omega); have hzs6 := hg6.size; (try simp at hzs6); have zx6_0 : w.heap.size < w6.heap.size := (by first | omega | (simp at hzs6; omega)); have zy6_0 : w.heap.size < w6.heap.size + 1 := (by omega); have zw6_0 : ¬ w6.heap.size = w.heap.size := (by omega); have zv6_0 : ¬ w.heap.size = w6.heap.size := (by omega); have zu6_0 : w.heap.size < w6.heap.size + 1 + 1 := (by omega); have zt6_0 : ¬ w6.heap.size + 1 = w.heap.size := (by omega); have zr6_0 : ¬ w.heap.size = w6.heap.size + 1 := (by omega); have zx6_1 : w.heap.size + 1 < w6.heap.size := (by first | omega | (simp at hzs6; omega)); have zy6_1 : w.heap.size + 1 < w6.heap.size + 1 := (by omega); have zw6_1 : ¬ w6.heap.size = w.heap.size + 1 := (by omega); have zv6_1 : ¬ w.heap.size + 1 = w6.heap.size := (by omega); have zu6_1 : w.heap.size + 1 < w6.heap.size + 1 + 1 := (by omega); have zt6_1 : ¬ w6.heap.size + 1 = w.heap.size + 1 := (by omega); have zr6_1 : ¬ w.heap.size + 1 = w6.heap.size + 1 := (by omega); have zx6_2 : w1.heap.size < w6.heap.size := (by first | omega | (simp at hzs6; omega)); have zy6_2 : w1.heap.size < w6.heap.size + 1 := (by omega); have zw6_2 : ¬ w6.heap.size = w1.heap.size := (by omega); have zv6_2 : ¬ w1.heap.size = w6.heap.size := (by omega); have zu6_2 : w1.heap.size < w6.heap.size + 1 + 1 := (by omega); have zt6_2 : ¬ w6.heap.size + 1 = w1.heap.size := (by omega); have zr6_2 : ¬ w1.heap.size = w6.heap.size + 1 := (by omega); have zx6_3 : w3.heap.size < w6.heap.size := (by first | omega | (simp at hzs6; omega)); have zy6_3 : w3.heap.size < w6.heap.size + 1 := (by omega); have zw6_3 : ¬ w6.heap.size = w3.heap.size := (by omega); have zv6_3 : ¬ w3.heap.size = w6.heap.size := (by omega); have zu6_3 : w3.heap.size < w6.heap.size + 1 + 1 := (by omega); have zt6_3 : ¬ w6.heap.size + 1 = w3.heap.size := (by omega); have zr6_3 : ¬ w3.heap.size = w6.heap.size + 1 := (by omega)
  have hzz6 := hg6.size
  have HB6 := hide (And.intro (cell_grown hg6 n3g HB.out.1) ((gfroz hg6 _ _ zc3 n3g).trans HB.out.2))
  have HT6 := hide (HT.out.grown hg6 (by omega))
  have HC6 := hide (HC.out.grown hg6 (by omega) n1g)
  have HO6 := hide (HO.out.grown hg6 (by omega))
  have HRa6 := hide (mine_grow HRa.out hg6 (by omega) nz0)
  have HRb6 := hide (mine_grow HRb.out hg6 (by omega) nz2)
  have HG6 := hide (gr_step HG.out hg6)
  have HS6 := hide hs6
  have z36 : w3.heap.size < w6.heap.size := by omega
  clear hc6 hf6 hg6 hs6 HB HT HC HO HRa HRb HG HS
  go_upto_if 30 with fail
  go_cut [30] (fun s W => ∃ (so2 : Option Addr) (n2 cap2 : Nat) (Lt : List Int), 2 ≤ n2 ∧ n2 ≤ 41 ∧ n2 ≤ cap2 ∧ Hid (W.cell? ⟨w3.heap.size, 0, none⟩ = some (.slice so2 n2 cap2) ∧ W.frozen? ⟨w3.heap.size, 0, none⟩ = false) ∧ Hid (OwnI 3 2000000000 W (w1.heap.size + 1) Lt n2 so2) ∧ Hid (CoB W w1.heap.size ax ay bx bY cx cy dx dy (some ⟨b, 0, none⟩) n cap) ∧ Hid (OwnM W (w.heap.size + 2) N X Y S Z n (some ⟨b, 0, none⟩)) ∧ Hid (Mine W w.heap.size 9) ∧ Hid (Mine W (w.heap.size + 1) 1) ∧ Hid (Src W g) ∧ Hid (w.grownBy W (some g)) ∧ w3.heap.size < W.heap.size)
  case first =>
   by_cases h6 : x6 = 0
   ·subst h6
    go_wp2_with fail
    go_meet
    exact ⟨so2, n2, cap2, Lt, hn2a, hn2b, hn2c, HB6, HT6, HC6, HO6, HRa6, HRb6, HS6, HG6, z36⟩
   ·have h6i : (0 : Int) < (x6 : Int) := by omega
    obtain ⟨b2, rfl, hb2B, hb2l, hbc⟩ := HT6.out.blk (by omega)
    have HBc := hide hbc
    have nb2g : ¬ b2 = g := by omega
    obtain ⟨m0, m1⟩ := HB6.out
    have hs6' := HS6.out
    have hg6' := HG6.out
    have lg6 := Src.lt hs6'
    clear hbc
    go_upto_region 7 with fail
    clear h6i h6
    generalize decide (0 < x6) = bb6 at *
    have HwE : World.grownBy w w6 (some g) := gwz
    have HcE0 : World.cell? w6 ⟨w3.heap.size, 0, none⟩ = some (.slice (some ⟨b2, 0, none⟩) n2 cap2) := (by go_simp)
    refine wp_region_held_drew (S := fun W => W.cell? ⟨w3.heap.size, 0, none⟩ = some (.slice (some ⟨b2, 0, none⟩) n2 cap2) ∧ World.grownBy w W (some g) ∧ Src W g) (by kernel_rfl) ⟨HcE0, gr_drew HwE, by assumption⟩ (fun hHeld => ?_)
    refine tkD 0 (some 31) rfl ?_; simp only [pz]
    refine tkD 1 (some 32) rfl ?_; simp only [pz]
    refine tkD 2 (some 33) rfl ?_; simp only [pz]
    refine tkD 3 (some 34) rfl ?_; simp only [pz]
    refine tkD 4 (some 35) rfl ?_; simp only [pz]
    refine tkD 5 (some 36) rfl ?_; simp only [pz]
    refine wpAnyH_inv (fuel := 1) [6, 7, 8, 9] [37, 38, 39, 8] (fun u L W => (World.grownBy w6 W (some g) ∧ Src W g) ∧ (L 6 → FNat n2 (u 37)) ∧ (L 7 → FFx b2 n2 (u 38) W) ∧ (L 8 → FAgg3 (u 39)) ∧ (L 9 → FBox g w6 3 (u 8) W) ∧ True) (by decide) (by kernel_rfl) (fun u L W hJ => ⟨cell_grown hJ.1.1 (by omega) HcE0, HwE.trans hJ.1.1, hJ.1.2⟩) (fun u L hL => ⟨⟨gr_drew (World.grownBy.refl _ _), by assumption⟩, fun k => absurd k (hL 6 (by decide)), fun k => absurd k (hL 7 (by decide)), fun k => absurd k (hL 8 (by decide)), fun k => absurd k (hL 9 (by decide)), trivial⟩) ?_ ?_
    ·refine sc1 37 ?_ ?_
     rotate_left
     refine sc1 38 ?_ ?_
     rotate_left
     refine sc1 39 ?_ ?_
     rotate_left
     refine sc1 8 ?_ ?_
     rotate_left
     exact StepsH.nil
     ·intro u L W hn hd hJ
      obtain ⟨hk, f37, f38, f39, f8, _⟩ := hJ
      have hnd := hk.2
      intro K hK
      simp only [puts, pz]
      go_simp; (go_at_call 14; (with_reducible refine (spec_l01NextP g n2 _ hnd (by omega) (by omega)).mono ?_); rintro e w9 ⟨⟨xx, rfl, hxx⟩, hg, hs⟩)
      all_goals (try go_wp2_with fail)
      all_goals
       apply Shut.go3 (W := W) (g := g) hK
       ·simp only [puts, pz]; rfl
       ·exact gbz
       ·exact sbz
       ·intro hg hs; exact ⟨Dr.step hk hg hs, fun _ => by rw [upd_same]; exact ⟨_, rfl, by first | assumption | omega⟩, unz fun h => FFx.later hg (f38 h), unz f39, unz fun h => FBox.later hg (f8 h), trivial⟩
     ·intro u L W hn hd hJ
      obtain ⟨hk, f37, f38, f39, f8, _⟩ := hJ
      have hnd := hk.2
      obtain ⟨x37, e37, l37⟩ := f37 (hd 6 (by kernel_rfl))
      have il37 : (0 : Int) ≤ (x37 : Int) := (by omega); have iu37 : (x37 : Int) < (n2 : Int) := (by omega)
      intro K hK
      simp only [puts, pz, e37]
      go_simp
      all_goals (try go_wp2_with fail)
      all_goals
       apply Shut.go3 (W := W) (g := g) hK
       ·simp only [puts, pz, e37]; rfl
       ·exact gbz
       ·exact sbz
       ·intro hg hs; exact ⟨Dr.step hk hg hs, unz f37, fun _ => by rw [upd_same]; exact ⟨_, rfl, l37⟩, unz f39, unz fun h => FBox.later hg (f8 h), trivial⟩
     ·intro u L W hn hd hJ
      obtain ⟨hk, f37, f38, f39, f8, _⟩ := hJ
      have hnd := hk.2
      obtain ⟨x38, e38, hx38⟩ := f38 (hd 7 (by kernel_rfl))
      obtain ⟨cq0, cq1, cq2⟩ := fix_pre HBc.out hk.1 nb2g hx38
      intro K hK
      simp only [puts, pz, e38]
      go_simp
      all_goals (try go_wp2_with fail)
      all_goals
       apply Shut.go3 (W := W) (g := g) hK
       ·simp only [puts, pz, e38]; rfl
       ·exact gbz
       ·exact sbz
       ·intro hg hs; exact ⟨Dr.step hk hg hs, unz f37, unz fun h => FFx.later hg (f38 h), fun _ => by rw [upd_same]; exact ⟨_, _, _, rfl⟩, unz fun h => FBox.later hg (f8 h), trivial⟩
     ·intro u L W hn hd hJ
      obtain ⟨hk, f37, f38, f39, f8, _⟩ := hJ
      have hnd := hk.2
      intro K hK
      simp only [puts, pz]
      go_simp
      all_goals (try go_wp2_with fail)
      all_goals
       apply Shut.go3 (W := W) (g := g) hK
       ·simp only [puts, pz]; rfl
       ·exact gbz
       ·exact sbz
       ·intro hg hs; exact ⟨Dr.step hk hg hs, unz f37, unz fun h => FFx.later hg (f38 h), unz f39, fun _ => by rw [upd_same]; exact FBox.new (Src.lt hnd) (World.grownBy.size hk.1) _ _ (by rfl), trivial⟩
    ·intro u L W hJ hL
     obtain ⟨hk, f37, f38, f39, f8, _⟩ := hJ
     obtain ⟨x37, e37, l37⟩ := f37 (hL 6 (by kernel_rfl))
     obtain ⟨x38, e38, hx38⟩ := f38 (hL 7 (by kernel_rfl))
     obtain ⟨x39_0, x39_1, x39_2, e39⟩ := f39 (hL 8 (by kernel_rfl))
     obtain ⟨b8, e8, gb8, bb8, lb8, cb8⟩ := f8 (hL 9 (by kernel_rfl))
     clear hHeld; have hcW := gcell hk.1; have hfW := gfroz hk.1; have hHeld := And.intro (HwE.trans hk.1) hk.2; have lW := hk.1.size
     clear f37
     clear f38
     clear f39
     clear f8
     simp only [puts, pz, setAll, Array.replicate, e37, e38, e39, e8]
     obtain ⟨⟨y8_0, cy8_0⟩, fy8_0⟩ := cb8 0 (by decide)
     obtain ⟨⟨y8_1, cy8_1⟩, fy8_1⟩ := cb8 1 (by decide)
     obtain ⟨⟨y8_2, cy8_2⟩, fy8_2⟩ := cb8 2 (by decide)
     refine rd1 10 none rfl (fun K hK => ?_)
     go_simp
     all_goals (try go_wp2_with fail)
     refine hK.out _ _ ?_ (fun hH2 => ?_)
     ·have hHg := hHeld.1; have hHs := hHeld.2; exact ⟨(by go_simp; done), gwz, swz⟩
     clear hK K hHeld; (have hHeld := hH2.2); clear hH2; (try simp only [Act.put])
     refine wpAnyH_done (by kernel_rfl) ?_ _; (try simp only [pz])
     obtain ⟨hgE, hsE⟩ := hHeld
     obtain ⟨wF, hF⟩ : ∃ x, x = ((W.setCell ⟨b8, 0, none⟩ (.int .i64 x39_0)).setCell ⟨b8, 1, none⟩ (.int .i64 x39_1)).setCell ⟨b8, 2, none⟩ (.int .i64 x39_2) := ⟨_, rfl⟩
     have hrF : w6.grownBy wF (some g) := by rw [hF]; exact gr_new (gr_new (gr_new hk.1 bb8) bb8) bb8
     have f1 : wF.cell? ⟨b8, 1, none⟩ = some (.int .i64 x39_1) := by rw [hF]; go_simp
     have f2 : wF.cell? ⟨b8, 2, none⟩ = some (.int .i64 x39_2) := by rw [hF]; go_simp
     rw [← hF] at hgE hsE ⊢
     have hsF := hrF.size
     have zb8 : b8 < wF.heap.size := World.block_lt_of_cell? _ _ f1
     have nb8g : ¬ b8 = g := by omega
     have HBF := hide (And.intro (cell_grown hrF n3g HB6.out.1) ((gfroz hrF _ _ z36 n3g).trans HB6.out.2))
     have HTF := hide (HT6.out.grown hrF (by omega))
     have HCF := hide (HC6.out.grown hrF (by omega) n1g)
     have HOF := hide (HO6.out.grown hrF (by omega))
     have HRaF := hide (mine_grow HRa6.out hrF (by omega) nz0)
     have HRbF := hide (mine_grow HRb6.out hrF (by omega) nz2)
     have HGF := hide (gr_step HG6.out hrF)
     have HSF := hide hsE
     clear hF hrF hgE hsE hcW hfW hk hs6' hg6' m0 m1 HB6 HT6 HC6 HO6 HRa6 HRb6 HG6 HS6
     have c8 := HCF.out.2.2.2.2.2.2.2.2.1
     have mm1 : wF.cell? ⟨b, j * 5 + 1, none⟩ = some (.int .i64 (X j)) := (HOF.out.cell hjn (show 1 < 5 by decide)).1
     have mm2 : wF.cell? ⟨b, j * 5 + 2, none⟩ = some (.int .i64 (Y j)) := (HOF.out.cell hjn (show 2 < 5 by decide)).1
     have mm3 : wF.cell? ⟨b, j * 5 + 1 + 1, none⟩ = some (.int .i64 (Y j)) := mm2
     have hgF' := HGF.out
     have hsF' := HSF.out
     have lgF := Src.lt hsF'
     have hj1 : (0 : Int) ≤ (j : Int) := by omega
     have hj2 : (j : Int) < (n : Int) := by omega
     have zbF : b < wF.heap.size := by omega
     have z1F : w1.heap.size < wF.heap.size := by omega
     go_upto_region 8 with fail
     have HwE : World.grownBy w wF (some g) := gwz
     have HcE0 : World.cell? wF ⟨w1.heap.size, 8, none⟩ = some (.slice (some ⟨b, 0, none⟩) n cap) := (by go_simp)
     have HcE1 : World.cell? wF ⟨b, j * 5 + 1, none⟩ = some (.int .i64 (X j)) := (by go_simp)
     have HcE2 : World.cell? wF ⟨b, j * 5 + 2, none⟩ = some (.int .i64 (Y j)) := (by go_simp)
     have HcE3 : World.cell? wF ⟨b, j * 5 + 1 + 1, none⟩ = some (.int .i64 (Y j)) := (by go_simp)
     have HcE4 : World.cell? wF ⟨b8, 1, none⟩ = some (.int .i64 x39_1) := (by go_simp)
     have HcE5 : World.cell? wF ⟨b8, 2, none⟩ = some (.int .i64 x39_2) := (by go_simp)
     refine wp_region_held_drew (S := fun W => W.cell? ⟨w1.heap.size, 8, none⟩ = some (.slice (some ⟨b, 0, none⟩) n cap) ∧ W.cell? ⟨b, j * 5 + 1, none⟩ = some (.int .i64 (X j)) ∧ W.cell? ⟨b, j * 5 + 2, none⟩ = some (.int .i64 (Y j)) ∧ W.cell? ⟨b, j * 5 + 1 + 1, none⟩ = some (.int .i64 (Y j)) ∧ W.cell? ⟨b8, 1, none⟩ = some (.int .i64 x39_1) ∧ W.cell? ⟨b8, 2, none⟩ = some (.int .i64 x39_2) ∧ World.grownBy w W (some g) ∧ Src W g) (by kernel_rfl) ⟨HcE0, HcE1, HcE2, HcE3, HcE4, HcE5, gr_drew HwE, by assumption⟩ (fun hHeld => ?_)
     refine tkD 0 (some 40) rfl ?_; simp only [pz]
     refine tkD 1 (some 41) rfl ?_; simp only [pz]
     refine tkD 2 (some 42) rfl ?_; simp only [pz]
     refine tkD 3 (some 43) rfl ?_; simp only [pz]
     refine tkD 4 (some 44) rfl ?_; simp only [pz]
     refine tkD 5 (some 45) rfl ?_; simp only [pz]
     refine tkD 6 (some 46) rfl ?_; simp only [pz]
     refine tkD 7 (some 47) rfl ?_; simp only [pz]
     refine tkD 8 (some 48) rfl ?_; simp only [pz]
     refine tkD 9 (some 49) rfl ?_; simp only [pz]
     refine tkD 10 (some 50) rfl ?_; simp only [pz]
     refine tkD 14 (some 54) rfl ?_; simp only [pz]
     refine tkD 15 (some 55) rfl ?_; simp only [pz]
     refine tkD 16 (some 56) rfl ?_; simp only [pz]
     refine tkD 17 (some 57) rfl ?_; simp only [pz]
     refine tkD 18 (some 58) rfl ?_; simp only [pz]
     refine tkD 19 (some 59) rfl ?_; simp only [pz]
     refine tkD 20 (some 60) rfl ?_; simp only [pz]
     refine tkD 21 (some 61) rfl ?_; simp only [pz]
     refine tkD 22 (some 62) rfl ?_; simp only [pz]
     refine tkD 23 (some 63) rfl ?_; simp only [pz]
     refine tkD 24 (some 64) rfl ?_; simp only [pz]
     refine wpAnyH_inv (fuel := 0) [11, 12, 13, 25, 26, 27, 28, 29] [51, 52, 53, 65, 66, 67, 9, 10] (fun u L W => (World.grownBy wF W (some g) ∧ Src W g) ∧ (L 11 → FNat 61 (u 51)) ∧ (L 12 → FInt (u 52)) ∧ (L 13 → FInt (u 53)) ∧ (L 25 → FNat 61 (u 65)) ∧ (L 26 → FInt (u 66)) ∧ (L 27 → FInt (u 67)) ∧ (L 28 → FInt (u 9)) ∧ (L 29 → FInt (u 10)) ∧ True) (by decide) (by kernel_rfl) (fun u L W hJ => ⟨cell_grown hJ.1.1 (by omega) HcE0, cell_grown hJ.1.1 (by omega) HcE1, cell_grown hJ.1.1 (by omega) HcE2, cell_grown hJ.1.1 (by omega) HcE3, cell_grown hJ.1.1 (by omega) HcE4, cell_grown hJ.1.1 (by omega) HcE5, HwE.trans hJ.1.1, hJ.1.2⟩) (fun u L hL => ⟨⟨gr_drew (World.grownBy.refl _ _), by assumption⟩, fun k => absurd k (hL 11 (by decide)), fun k => absurd k (hL 12 (by decide)), fun k => absurd k (hL 13 (by decide)), fun k => absurd k (hL 25 (by decide)), fun k => absurd k (hL 26 (by decide)), fun k => absurd k (hL 27 (by decide)), fun k => absurd k (hL 28 (by decide)), fun k => absurd k (hL 29 (by decide)), trivial⟩) ?_ ?_
     ·refine sc1 51 ?_ ?_
      rotate_left
      refine sc1 52 ?_ ?_
      rotate_left
      refine sc1 53 ?_ ?_
      rotate_left
      refine sc1 65 ?_ ?_
      rotate_left
      refine sc1 66 ?_ ?_
      rotate_left
      refine sc1 67 ?_ ?_
      rotate_left
      refine sc1 9 ?_ ?_
      rotate_left
      refine sc1 10 ?_ ?_
      rotate_left
      exact StepsH.nil
      ·intro u L W hn hd hJ
       obtain ⟨hk, f51, f52, f53, f65, f66, f67, f9, f10, _⟩ := hJ
       have hnd := hk.2
       intro K hK
       simp only [puts, pz]
       go_simp; (go_at_call 14; (with_reducible refine (spec_l01NextN g 61 61 _ hnd (by decide) (by decide) (by decide)).mono ?_); rintro e w9 ⟨⟨xx, rfl, hxx⟩, hg, hs⟩)
       all_goals (try go_wp2_with fail)
       all_goals
        apply Shut.go3 (W := W) (g := g) hK
        ·simp only [puts, pz]; rfl
        ·exact gbz
        ·exact sbz
        ·intro hg hs; exact ⟨Dr.step hk hg hs, fun _ => by rw [upd_same]; exact ⟨_, rfl, by first | assumption | omega⟩, unz f52, unz f53, unz f65, unz f66, unz f67, unz f9, unz f10, trivial⟩
      ·intro u L W hn hd hJ
       obtain ⟨hk, f51, f52, f53, f65, f66, f67, f9, f10, _⟩ := hJ
       have hnd := hk.2
       obtain ⟨x51, e51, l51⟩ := f51 (hd 11 (by kernel_rfl))
       have il51 : (0 : Int) ≤ (x51 : Int) := (by omega); have iu51 : (x51 : Int) < (61 : Int) := (by omega)
       intro K hK
       simp only [puts, pz, e51]
       go_simp
       all_goals (try go_wp2_with fail)
       all_goals
        apply Shut.go3 (W := W) (g := g) hK
        ·simp only [puts, pz, e51]; rfl
        ·exact gbz
        ·exact sbz
        ·intro hg hs; exact ⟨Dr.step hk hg hs, unz f51, fun _ => by rw [upd_same]; exact ⟨_, rfl⟩, unz f53, unz f65, unz f66, unz f67, unz f9, unz f10, trivial⟩
      ·intro u L W hn hd hJ
       obtain ⟨hk, f51, f52, f53, f65, f66, f67, f9, f10, _⟩ := hJ
       have hnd := hk.2
       obtain ⟨x52, e52⟩ := f52 (hd 12 (by kernel_rfl))
       intro K hK
       simp only [puts, pz, e52]
       go_simp
       all_goals (try go_wp2_with fail)
       all_goals
        apply Shut.go3 (W := W) (g := g) hK
        ·simp only [puts, pz, e52]; rfl
        ·exact gbz
        ·exact sbz
        ·intro hg hs; exact ⟨Dr.step hk hg hs, unz f51, unz f52, fun _ => by rw [upd_same]; exact ⟨_, rfl⟩, unz f65, unz f66, unz f67, unz f9, unz f10, trivial⟩
      ·intro u L W hn hd hJ
       obtain ⟨hk, f51, f52, f53, f65, f66, f67, f9, f10, _⟩ := hJ
       have hnd := hk.2
       intro K hK
       simp only [puts, pz]
       go_simp; (go_at_call 14; (with_reducible refine (spec_l01NextN g 61 61 _ hnd (by decide) (by decide) (by decide)).mono ?_); rintro e w9 ⟨⟨xx, rfl, hxx⟩, hg, hs⟩)
       all_goals (try go_wp2_with fail)
       all_goals
        apply Shut.go3 (W := W) (g := g) hK
        ·simp only [puts, pz]; rfl
        ·exact gbz
        ·exact sbz
        ·intro hg hs; exact ⟨Dr.step hk hg hs, unz f51, unz f52, unz f53, fun _ => by rw [upd_same]; exact ⟨_, rfl, by first | assumption | omega⟩, unz f66, unz f67, unz f9, unz f10, trivial⟩
      ·intro u L W hn hd hJ
       obtain ⟨hk, f51, f52, f53, f65, f66, f67, f9, f10, _⟩ := hJ
       have hnd := hk.2
       obtain ⟨x65, e65, l65⟩ := f65 (hd 25 (by kernel_rfl))
       have il65 : (0 : Int) ≤ (x65 : Int) := (by omega); have iu65 : (x65 : Int) < (61 : Int) := (by omega)
       intro K hK
       simp only [puts, pz, e65]
       go_simp
       all_goals (try go_wp2_with fail)
       all_goals
        apply Shut.go3 (W := W) (g := g) hK
        ·simp only [puts, pz, e65]; rfl
        ·exact gbz
        ·exact sbz
        ·intro hg hs; exact ⟨Dr.step hk hg hs, unz f51, unz f52, unz f53, unz f65, fun _ => by rw [upd_same]; exact ⟨_, rfl⟩, unz f67, unz f9, unz f10, trivial⟩
      ·intro u L W hn hd hJ
       obtain ⟨hk, f51, f52, f53, f65, f66, f67, f9, f10, _⟩ := hJ
       have hnd := hk.2
       obtain ⟨x66, e66⟩ := f66 (hd 26 (by kernel_rfl))
       intro K hK
       simp only [puts, pz, e66]
       go_simp
       all_goals (try go_wp2_with fail)
       all_goals
        apply Shut.go3 (W := W) (g := g) hK
        ·simp only [puts, pz, e66]; rfl
        ·exact gbz
        ·exact sbz
        ·intro hg hs; exact ⟨Dr.step hk hg hs, unz f51, unz f52, unz f53, unz f65, unz f66, fun _ => by rw [upd_same]; exact ⟨_, rfl⟩, unz f9, unz f10, trivial⟩
      ·intro u L W hn hd hJ
       obtain ⟨hk, f51, f52, f53, f65, f66, f67, f9, f10, _⟩ := hJ
       have hnd := hk.2
       obtain ⟨x53, e53⟩ := f53 (hd 13 (by kernel_rfl))
       intro K hK
       simp only [puts, pz, e53]
       go_simp
       all_goals (try go_wp2_with fail)
       all_goals
        apply Shut.go3 (W := W) (g := g) hK
        ·simp only [puts, pz, e53]; rfl
        ·exact gbz
        ·exact sbz
        ·intro hg hs; exact ⟨Dr.step hk hg hs, unz f51, unz f52, unz f53, unz f65, unz f66, unz f67, fun _ => by rw [upd_same]; exact ⟨_, rfl⟩, unz f10, trivial⟩
      ·intro u L W hn hd hJ
       obtain ⟨hk, f51, f52, f53, f65, f66, f67, f9, f10, _⟩ := hJ
       have hnd := hk.2
       obtain ⟨x67, e67⟩ := f67 (hd 27 (by kernel_rfl))
       intro K hK
       simp only [puts, pz, e67]
       go_simp
       all_goals (try go_wp2_with fail)
       all_goals
        apply Shut.go3 (W := W) (g := g) hK
        ·simp only [puts, pz, e67]; rfl
        ·exact gbz
        ·exact sbz
        ·intro hg hs; exact ⟨Dr.step hk hg hs, unz f51, unz f52, unz f53, unz f65, unz f66, unz f67, unz f9, fun _ => by rw [upd_same]; exact ⟨_, rfl⟩, trivial⟩
     ·intro u L W hJ hL
      obtain ⟨hk, f51, f52, f53, f65, f66, f67, f9, f10, _⟩ := hJ
      obtain ⟨x51, e51, l51⟩ := f51 (hL 11 (by kernel_rfl))
      obtain ⟨x52, e52⟩ := f52 (hL 12 (by kernel_rfl))
      obtain ⟨x53, e53⟩ := f53 (hL 13 (by kernel_rfl))
      obtain ⟨x65, e65, l65⟩ := f65 (hL 25 (by kernel_rfl))
      obtain ⟨x66, e66⟩ := f66 (hL 26 (by kernel_rfl))
      obtain ⟨x67, e67⟩ := f67 (hL 27 (by kernel_rfl))
      obtain ⟨x9, e9⟩ := f9 (hL 28 (by kernel_rfl))
      obtain ⟨x10, e10⟩ := f10 (hL 29 (by kernel_rfl))
      clear hHeld; have hcW := gcell hk.1; have hfW := gfroz hk.1; have hHeld := And.intro (HwE.trans hk.1) hk.2; have lW := hk.1.size
      clear f51
      clear f52
      clear f53
      clear f65
      clear f66
      clear f67
      clear f9
      clear f10
      simp only [puts, pz, setAll, Array.replicate, e51, e52, e53, e65, e66, e67, e9, e10]
      refine wpAnyH_done (by kernel_rfl) ?_ _; (try simp only [pz])
      obtain ⟨hgE, hsE⟩ := hHeld
      obtain ⟨wG, rfl⟩ : ∃ x : World, x = W := ⟨_, rfl⟩
      have hrG := hk.1
      have hsG := hrG.size
      have z3F : w3.heap.size < wF.heap.size := by omega
      have HBG := hide (And.intro (cell_grown hrG n3g HBF.out.1) ((gfroz hrG _ _ z3F n3g).trans HBF.out.2))
      have HTG := hide (HTF.out.grown hrG (by omega))
      have HCG := hide (HCF.out.grown hrG (by omega) n1g)
      have HOG := hide (HOF.out.grown hrG (by omega))
      have HRaG := hide (mine_grow HRaF.out hrG (by omega) nz0)
      have HRbG := hide (mine_grow HRbF.out hrG (by omega) nz2)
      have HGG := hide (gr_step HGF.out hrG)
      have HSG := hide hsE
      clear hrG hgE hsE hcW hfW hk hgF' hsF' c8 mm1 mm2 mm3 f1 f2 HBF HTF HCF HOF HRaF HRbF HGF HSF
      obtain ⟨_, e9', _, hb2l, hbc⟩ := HTG.out.blk (by omega)
      injection e9' with e9'
      injection e9' with e9'
      subst e9'
      have HBd := hide hbc
      have HTM := hide HTG.out.2.1
      obtain ⟨m0, m1⟩ := HBG.out
      have z3G : w3.heap.size < wG.heap.size := by omega
      clear hbc
      go_wp2
      go_loopw [11, 12] (fun v i wr => ∃ (q cp xo : Nat) (Lq : List Int), q ≤ n2 ∧ i = .int .i64 (q : Int) ∧ v = .slice (some ⟨xo, 0, none⟩) q cp ∧ Lq.length = q * 3 ∧ Hid (∀ i, i < q → -2000000000 ≤ Lq[i * 3]?.getD 0 ∧ Lq[i * 3]?.getD 0 ≤ 2000000000) ∧ Hid (wr.ownsRow wG.heap.size 68 3 v q (Lq.map (Value.int .i64))) ∧ Hid (Below wG.heap.size wG wr)) (fun _ i _ => n2 - (intOf i).toNat)
      case atStart => exact ⟨0, 0, wG.heap.size, [], Nat.zero_le _, rfl, rfl, rfl, hide (fun i hi => absurd hi (Nat.not_lt_zero _)), hide (own_new wG wG.heap.size wG.heap.size rfl (Nat.le_refl _)), hide (Below.alloc (Below.refl _ _) (Nat.le_refl _) _)⟩
      case round =>
       obtain ⟨q, cp, xo, Lq, hq, rfl, rfl, hlq, HMq, HOq, HBq⟩ := hrel
       have zr := HBq.out.size
       have z3r : w3.heap.size < wr.heap.size := by omega
       have zb2r : b2 < wr.heap.size := by omega
       have k0 := cell_below HBq.out z3G m0
       by_cases hlt : q < n2
       ·have hq0 : (0 : Int) ≤ (q : Int) := by omega
        have hq1 : (q : Int) < (n2 : Int) := by omega
        have t0 := (HBd.out (q * 3) (by omega)).1
        have t1 := (HBd.out (q * 3 + 1) (by omega)).1
        have t2 := (HBd.out (q * 3 + 2) (by omega)).1
        have hMt := HTM.out q hlt
        generalize Lt[q * 3]?.getD 0 = T0 at *
        generalize Lt[q * 3 + 1]?.getD 0 = U0 at *
        generalize Lt[q * 3 + 2]?.getD 0 = V0 at *
        have HMt := hide hMt
        clear hMt
        go_upto_region 13 with fail
        clear k0
        refine wp_region_held_drew (S := fun W => Below wG.heap.size wG W) (by kernel_rfl) (Below.drew HBq.out) (fun hHeld => ?_)
        refine tkL 0 (some 76) rfl ?_; simp only [pz]
        refine tkL 1 (some 77) rfl ?_; simp only [pz]
        refine tkL 2 (some 78) rfl ?_; simp only [pz]
        refine tkL 3 (some 79) rfl ?_; simp only [pz]
        refine tkL 4 (some 80) rfl ?_; simp only [pz]
        refine tkL 5 (some 81) rfl ?_; simp only [pz]
        refine tkL 6 (some 82) rfl ?_; simp only [pz]
        refine tkL 7 (some 83) rfl ?_; simp only [pz]
        refine tkL 8 (some 84) rfl ?_; simp only [pz]
        refine tkL 9 (some 85) rfl ?_; simp only [pz]
        refine tkL 10 (some 86) rfl ?_; simp only [pz]
        refine tkL 11 (some 87) rfl ?_; simp only [pz]
        refine tkL 12 (some 88) rfl ?_; simp only [pz]
        refine tkL 13 (some 89) rfl ?_; simp only [pz]
        refine tkL 14 (some 90) rfl ?_; simp only [pz]
        refine tkL 15 (some 91) rfl ?_; simp only [pz]
        refine tkL 16 (some 92) rfl ?_; simp only [pz]
        refine tkL 17 (some 93) rfl ?_; simp only [pz]
        refine tkL 18 (some 94) rfl ?_; simp only [pz]
        refine tkL 19 (some 95) rfl ?_; simp only [pz]
        refine tkL 20 (some 96) rfl ?_; simp only [pz]
        refine tkL 21 (some 97) rfl ?_; simp only [pz]
        refine tkL 22 (some 98) rfl ?_; simp only [pz]
        refine tkL 23 (some 99) rfl ?_; simp only [pz]
        refine rd1 24 (some 100) rfl (fun K hK => ?_)
        go_simp
        all_goals (try go_wp2_with fail)
        refine hK.out _ _ (Below.alloc hHeld hHeld.size _) (fun hH2 => ?_)
        clear hK K hHeld; (have hHeld := hH2); clear hH2; (try simp only [pz])
        refine rd1 25 (some 101) rfl (fun K hK => ?_)
        refine step_append_lies _ (by rfl) _ _ 43 (by rfl) wG.heap.size 68 i0 _ 3 24 Tryz.underlying43 Hi.out Hz.out.1 Hz.out.2.1 Hz.out.2.2 (by rfl) (by decide) (.slice (some ⟨xo, 0, none⟩) q cp) q _ (by rfl) (HOq.out.drew.alloc _) ⟨wr.heap.size, 0, none⟩ 1 1 [.int .i64 T0, .int .i64 (IntKind.i64.wrap (U0 + x9)), .int .i64 (IntKind.i64.wrap (V0 + x10))] (by rfl) (by rfl) (new3 (W := wr.drew)) (one3 _ _ _) (by decide) (by unfold maxLen; omega) (by omega) (by simp; omega) (wr.heap.size + 1) (by simp) ?_
        intro g' cap' wA hown' hgr hat hlt'
        refine hK.out _ _ (hHeld.trans (own_grown (HOq.out.drew.alloc _) (by simp; omega) hgr)) (fun hH2 => ?_)
        clear hK K hHeld; (have hHeld := hH2); clear hH2; (try simp only [pz])
        refine tkL 26 (some 11) rfl ?_; simp only [pz]
        refine wpAnyH_done (by kernel_rfl) ?_ _; (try simp only [pz])
        have HBA := hide hHeld
        have HOA := hide (show wA.ownsRow wG.heap.size 68 3 (.slice (some ⟨g', 0, none⟩) (q + 1) cap') (q + 1) ((Lq ++ [T0, IntKind.i64.wrap (U0 + x9), IntKind.i64.wrap (V0 + x10)]).map (Value.int .i64)) by rw [List.map_append]; exact hown')
        have HMA := hide (tl_app (a := IntKind.i64.wrap (U0 + x9)) (b := IntKind.i64.wrap (V0 + x10)) hlq HMq.out (T := T0) HMt.out)
        have hlA : (Lq ++ [T0, IntKind.i64.wrap (U0 + x9), IntKind.i64.wrap (V0 + x10)]).length = (q + 1) * 3 := by simp; omega
        generalize Lq ++ [T0, IntKind.i64.wrap (U0 + x9), IntKind.i64.wrap (V0 + x10)] = LA at *
        clear hown' hgr hat hlt' hHeld HMt t0 t1 t2 HOq HMq HBq
        go_wp2
        go_roundw
        case rel => exact ⟨q + 1, cap', g', LA, by omega, by go_num, rfl, hlA, HMA, HOA, HBA⟩
        case measure => simp [intOf] <;> omega
       ·obtain rfl : n2 = q := by omega
        obtain ⟨so', cp', e9', hcap, ho⟩ := ownI_of_row (c := 3) hlq HMq.out HOq.out
        injection e9' with e91 _ e93
        subst e91
        subst e93
        have HOr := hide ho
        have k1 := ((bcell HBq.out).2 _ _ z3G).trans m1
        have hbq := HBq.out
        clear ho HMq HOq
        go_wp2_with fail
        go_meet
        refine ⟨some ⟨xo, 0, none⟩, n2, cp, Lq, by omega, by omega, hcap, hide ⟨cell_same k0, (World.frozen?_setCell _ _ _ _).trans k1⟩, hide ((HOr.out.far (by omega)).mono (Int.le_refl _) (by omega)), hide ((HCG.out.later hbq).far (by omega)), hide ((HOG.out.later hbq).off (by omega)), hide (Mine.set (Mine.later hbq HRaG.out)), hide (Mine.set (Mine.later hbq HRbG.out)), hide (Src.set (by dsimp only; omega) (Src.keep hbq HSG.out)), hide (gr_new (gr_belowB HGG.out (hbq.mono (by omega))) (by dsimp only; omega)), by simpa [World.setCell] using z3r⟩
  case rest =>
   clear HB6 HT6 HC6 HO6 HRa6 HRb6 HG6 HS6
   obtain ⟨so2, n2, cap2, Lt, hn2a, hn2b, hn2c, HB, HT, HC, HO, HRa, HRb, HS, HG, zc3⟩ := hcut
   obtain ⟨wM, rfl⟩ : ∃ x : World, x = wc := ⟨_, rfl⟩
   have lgM := Src.lt HS.out
   go_wp2_with fail; (with_reducible refine (spec_l01NextN g 24 24 _ HS.out (by decide) (by decide) (by decide)).mono ?_); rintro e w8 ⟨⟨x8, rfl, hx8⟩, hg8, hs8⟩; have hc8 := gcell hg8; have hf8 := gfroz hg8; have lg8 := Src.lt hs8; have nga8 : ¬ w8.heap.size = g := (by omega); have ngb8 : ¬ g = w8.heap.size := (by omega); have hzs8 := hg8.size; (try simp at hzs8); have zx8_0 : w.heap.size < w8.heap.size := (by first | omega | (simp at hzs8; omega)); have zy8_0 : w.heap.size < w8.heap.size + 1 := (by omega); have zw8_0 : ¬ w8.heap.size = w.heap.size := (by omega); have zv8_0 : ¬ w.heap.size = w8.heap.size := (by omega); have zu8_0 : w.heap.size < w8.heap.size + 1 + 1 := (by omega); have zt8_0 : ¬ w8.heap.size + 1 = w.heap.size := (by omega); have zr8_0 : ¬ w.heap.size = w8.heap.size + 1 := (by omega); have zx8_1 : w.heap.size + 1 < w8.heap.size := (by first | omega | (simp at hzs8; omega)); have zy8_1 : w.heap.size + 1 < w8.heap.size + 1 := (by omega); have zw8_1 : ¬ w8.heap.size = w.heap.size + 1 := (by omega); have zv8_1 : ¬ w.heap.size + 1 = w8.heap.size := (by omega); have zu8_1 : w.heap.size + 1 < w8.heap.size + 1 + 1 := (by omega); have zt8_1 : ¬ w8.heap.size + 1 = w.heap.size + 1 := (by omega); have zr8_1 : ¬ w.heap.size + 1 = w8.heap.size + 1 := (by omega); have zx8_2 : w1.heap.size < w8.heap.size := (by first | omega | (simp at hzs8; omega)); have zy8_2 : w1.heap.size < w8.heap.size + 1 := (by omega); have zw8_2 : ¬ w8.heap.size = w1.heap.size := (by omega); have zv8_2 : ¬ w1.heap.size = w8.heap.size := (by omega); have zu8_2 : w1.heap.size < w8.heap.size + 1 + 1 := (by omega); have zt8_2 : ¬ w8.heap.size + 1 = w1.heap.size := (by omega); have zr8_2 : ¬ w1.heap.size = w8.heap.size + 1 := (by omega); have zx8_3 : w3.heap.size < w8.heap.size := (by first | omega | (simp at hzs8; omega)); have zy8_3 : w3.heap.size < w8.heap.size + 1 := (by omega); have zw8_3 : ¬ w8.heap.size = w3.heap.size := (by omega); have zv8_3 : ¬ w3.heap.size = w8.heap.size := (by omega); have zu8_3 : w3.heap.size < w8.heap.size + 1 + 1 := (by omega); have zt8_3 : ¬ w8.heap.size + 1 = w3.heap.size := (by omega); have zr8_3 : ¬ w3.heap.size = w8.heap.size + 1 := (by omega)
   have hzz8 := hg8.size
   have HB8 := hide (And.intro (cell_grown hg8 n3g HB.out.1) ((gfroz hg8 _ _ zc3 n3g).trans HB.out.2))
   have HT8 := hide (HT.out.grown hg8 (by omega))
   have HC8 := hide (HC.out.grown hg8 (by omega) n1g)
   have HO8 := hide (HO.out.grown hg8 (by omega))
   have HRa8 := hide (mine_grow HRa.out hg8 (by omega) nz0)
   have HRb8 := hide (mine_grow HRb.out hg8 (by omega) nz2)
   have HG8 := hide (gr_step HG.out hg8)
   have HS8 := hide hs8
   have z38 : w3.heap.size < w8.heap.size := by omega
   clear hc8 hf8 hg8 hs8 HB HT HC HO HRa HRb HG HS
   go_upto_block 2 with fail
   go_cut [6] (fun s6 W => ∃ (k9 : Int) (ax ay bx bY cx cy dx dy : Int) (so : Option Addr) (n cap : Nat) (N : Nat → ByteArray) (X Y S Z : Nat → Int) (so2 : Option Addr) (n2 cap2 : Nat) (Lt : List Int), s6 = .int .i64 k9 ∧ n ≤ 9 ∧ n ≤ cap ∧ 1 ≤ n2 ∧ n2 ≤ 41 ∧ n2 ≤ cap2 ∧ Hid (W.cell? ⟨w3.heap.size, 0, none⟩ = some (.slice so2 n2 cap2) ∧ W.frozen? ⟨w3.heap.size, 0, none⟩ = false) ∧ Hid (OwnI 3 2000000000 W (w1.heap.size + 1) Lt n2 so2) ∧ Hid (CoB W w1.heap.size ax ay bx bY cx cy dx dy so n cap) ∧ Hid (OwnM W (w.heap.size + 2) N X Y S Z n so) ∧ Hid (Mine W w.heap.size 9) ∧ Hid (Mine W (w.heap.size + 1) 1) ∧ Hid (Src W g) ∧ Hid (w.grownBy W (some g)) ∧ w3.heap.size < W.heap.size)
   case first =>
    by_cases e0 : x8 = 0
    ·subst e0
     go_wp2_with fail; (with_reducible refine (spec_l01NextN g 6 6 _ HS8.out (by decide) (by decide) (by decide)).mono ?_); rintro e w9 ⟨⟨x9, rfl, hx9⟩, hg9, hs9⟩; have hc9 := gcell hg9; have hf9 := gfroz hg9; have lg9 := Src.lt hs9; have nga9 : ¬ w9.heap.size = g := (by omega); have ngb9 : ¬ g = w9.heap.size := (by omega); have hzs9 := hg9.size; (try simp at hzs9); have zx9_0 : w.heap.size < w9.heap.size := (by first | omega | (simp at hzs9; omega)); have zy9_0 : w.heap.size < w9.heap.size + 1 := (by omega); have zw9_0 : ¬ w9.heap.size = w.heap.size := (by omega); have zv9_0 : ¬ w.heap.size = w9.heap.size := (by omega); have zu9_0 : w.heap.size < w9.heap.size + 1 + 1 := (by omega); have zt9_0 : ¬ w9.heap.size + 1 = w.heap.size := (by omega); have zr9_0 : ¬ w.heap.size = w9.heap.size + 1 := (by omega); have zx9_1 : w.heap.size + 1 < w9.heap.size := (by first | omega | (simp at hzs9; omega)); have zy9_1 : w.heap.size + 1 < w9.heap.size + 1 := (by omega); have zw9_1 : ¬ w9.heap.size = w.heap.size + 1 := (by omega); have zv9_1 : ¬ w.heap.size + 1 = w9.heap.size := (by omega); have zu9_1 : w.heap.size + 1 < w9.heap.size + 1 + 1 := (by omega); have zt9_1 : ¬ w9.heap.size + 1 = w.heap.size + 1 := (by omega); have zr9_1 : ¬ w.heap.size + 1 = w9.heap.size + 1 := (by omega); have zx9_2 : w1.heap.size < w9.heap.size := (by first | omega | (simp at hzs9; omega)); have zy9_2 : w1.heap.size < w9.heap.size + 1 := (by omega); have zw9_2 : ¬ w9.heap.size = w1.heap.size := (by omega); have zv9_2 : ¬ w1.heap.size = w9.heap.size := (by omega); have zu9_2 : w1.heap.size < w9.heap.size + 1 + 1 := (by omega); have zt9_2 : ¬ w9.heap.size + 1 = w1.heap.size := (by omega); have zr9_2 : ¬ w1.heap.size = w9.heap.size + 1 := (by omega); have zx9_3 : w3.heap.size < w9.heap.size := (by first | omega | (simp at hzs9; omega)); have zy9_3 : w3.heap.size < w9.heap.size + 1 := (by omega); have zw9_3 : ¬ w9.heap.size = w3.heap.size := (by omega); have zv9_3 : ¬ w3.heap.size = w9.heap.size := (by omega); have zu9_3 : w3.heap.size < w9.heap.size + 1 + 1 := (by omega); have zt9_3 : ¬ w9.heap.size + 1 = w3.heap.size := (by omega); have zr9_3 : ¬ w3.heap.size = w9.heap.size + 1 := (by omega)
     have hzz9 := hg9.size
     have HB9 := hide (And.intro (cell_grown hg9 n3g HB8.out.1) ((gfroz hg9 _ _ z38 n3g).trans HB8.out.2))
     have HT9 := hide (HT8.out.grown hg9 (by omega))
     have HC9 := hide (HC8.out.grown hg9 (by omega) n1g)
     have HO9 := hide (HO8.out.grown hg9 (by omega))
     have HRa9 := hide (mine_grow HRa8.out hg9 (by omega) nz0)
     have HRb9 := hide (mine_grow HRb8.out hg9 (by omega) nz2)
     have HG9 := hide (gr_step HG8.out hg9)
     have HS9 := hide hs9
     have z39 : w3.heap.size < w9.heap.size := by omega
     clear hc9 hf9 hg9 hs9 HB8 HT8 HC8 HO8 HRa8 HRb8 HG8 HS8
     go_wp2_with fail
     go_meet
     exact ⟨_, ax, ay, bx, bY, cx, cy, dx, dy, some ⟨b, 0, none⟩, n, cap, N, X, Y, S, Z, so2, n2, cap2, Lt, rfl, hn9, by omega, by omega, hn2b, hn2c, HB9, HT9, HC9, HO9, HRa9, HRb9, HS9, HG9, z39⟩
    have d0 : (x8 == 0) = false := beq_eq_false_iff_ne.2 e0
    by_cases e1 : x8 = 1
    ·subst e1
     go_wp2_with fail; (with_reducible refine (spec_l03DrawAny g _ HS8.out).mono ?_); rintro e w9 ⟨⟨so9, n9, cap9, L9, rfl, u1, u2, u3, ho9⟩, hg9, hs9⟩; have hc9 := gcell hg9; have hf9 := gfroz hg9; have lg9 := Src.lt hs9; have nga9 : ¬ w9.heap.size = g := (by omega); have ngb9 : ¬ g = w9.heap.size := (by omega); have hzs9 := hg9.size; (try simp at hzs9); have zx9_0 : w.heap.size < w9.heap.size := (by first | omega | (simp at hzs9; omega)); have zy9_0 : w.heap.size < w9.heap.size + 1 := (by omega); have zw9_0 : ¬ w9.heap.size = w.heap.size := (by omega); have zv9_0 : ¬ w.heap.size = w9.heap.size := (by omega); have zu9_0 : w.heap.size < w9.heap.size + 1 + 1 := (by omega); have zt9_0 : ¬ w9.heap.size + 1 = w.heap.size := (by omega); have zr9_0 : ¬ w.heap.size = w9.heap.size + 1 := (by omega); have zx9_1 : w.heap.size + 1 < w9.heap.size := (by first | omega | (simp at hzs9; omega)); have zy9_1 : w.heap.size + 1 < w9.heap.size + 1 := (by omega); have zw9_1 : ¬ w9.heap.size = w.heap.size + 1 := (by omega); have zv9_1 : ¬ w.heap.size + 1 = w9.heap.size := (by omega); have zu9_1 : w.heap.size + 1 < w9.heap.size + 1 + 1 := (by omega); have zt9_1 : ¬ w9.heap.size + 1 = w.heap.size + 1 := (by omega); have zr9_1 : ¬ w.heap.size + 1 = w9.heap.size + 1 := (by omega); have zx9_2 : w1.heap.size < w9.heap.size := (by first | omega | (simp at hzs9; omega)); have zy9_2 : w1.heap.size < w9.heap.size + 1 := (by omega); have zw9_2 : ¬ w9.heap.size = w1.heap.size := (by omega); have zv9_2 : ¬ w1.heap.size = w9.heap.size := (by omega); have zu9_2 : w1.heap.size < w9.heap.size + 1 + 1 := (by omega); have zt9_2 : ¬ w9.heap.size + 1 = w1.heap.size := (by omega); have zr9_2 : ¬ w1.heap.size = w9.heap.size + 1 := (by omega); have zx9_3 : w3.heap.size < w9.heap.size := (by first | omega | (simp at hzs9; omega)); have zy9_3 : w3.heap.size < w9.heap.size + 1 := (by omega); have zw9_3 : ¬ w9.heap.size = w3.heap.size := (by omega); have zv9_3 : ¬ w3.heap.size = w9.heap.size := (by omega); have zu9_3 : w3.heap.size < w9.heap.size + 1 + 1 := (by omega); have zt9_3 : ¬ w9.heap.size + 1 = w3.heap.size := (by omega); have zr9_3 : ¬ w3.heap.size = w9.heap.size + 1 := (by omega)
     have hzz9 := hg9.size
     have HT9 := hide ho9
     have HB9 := hide (And.intro (cell_grown hg9 n3g HB8.out.1) ((gfroz hg9 _ _ z38 n3g).trans HB8.out.2))
     have HC9 := hide (HC8.out.grown hg9 (by omega) n1g)
     have HO9 := hide (HO8.out.grown hg9 (by omega))
     have HRa9 := hide (mine_grow HRa8.out hg9 (by omega) nz0)
     have HRb9 := hide (mine_grow HRb8.out hg9 (by omega) nz2)
     have HG9 := hide (gr_step HG8.out hg9)
     have HS9 := hide hs9
     have z39 : w3.heap.size < w9.heap.size := by omega
     obtain ⟨m0, m1⟩ := HB9.out
     clear hc9 hf9 hg9 hs9 ho9 HB8 HT8 HC8 HO8 HRa8 HRb8 HG8 HS8
     go_wp2_with fail
     go_meet
     exact ⟨_, ax, ay, bx, bY, cx, cy, dx, dy, some ⟨b, 0, none⟩, n, cap, N, X, Y, S, Z, so9, n9, cap9, L9, rfl, hn9, by omega, by omega, u2, u3, hide ⟨cell_same m0, (World.frozen?_setCell _ _ _ _).trans m1⟩, hide ((HT9.out.far (by omega)).mono (Int.le_refl _) (by omega)), hide (HC9.out.far (by omega)), hide (HO9.out.off (by omega)), hide (Mine.set HRa9.out), hide (Mine.set HRb9.out), hide (Src.set (by dsimp only; omega) HS9.out), hide (gr_new HG9.out (by dsimp only; omega)), by simpa [World.setCell] using z39⟩
    have d1 : (x8 == 1) = false := beq_eq_false_iff_ne.2 e1
    by_cases e2 : x8 = 2
    ·subst e2
     go_wp2_with fail; (with_reducible refine (spec_l04DrawAny g _ HS8.out).mono ?_); rintro e w9 ⟨⟨ax9, ay9, bx9, bY9, cx9, cy9, dx9, dy9, so9, n9, cap9, N9, X9, Y9, S9, Z9, rfl, u1, u2, u3, uA, ho9⟩, hg9, hs9⟩; have hc9 := gcell hg9; have hf9 := gfroz hg9; have lg9 := Src.lt hs9; have nga9 : ¬ w9.heap.size = g := (by omega); have ngb9 : ¬ g = w9.heap.size := (by omega); have hzs9 := hg9.size; (try simp at hzs9); have zx9_0 : w.heap.size < w9.heap.size := (by first | omega | (simp at hzs9; omega)); have zy9_0 : w.heap.size < w9.heap.size + 1 := (by omega); have zw9_0 : ¬ w9.heap.size = w.heap.size := (by omega); have zv9_0 : ¬ w.heap.size = w9.heap.size := (by omega); have zu9_0 : w.heap.size < w9.heap.size + 1 + 1 := (by omega); have zt9_0 : ¬ w9.heap.size + 1 = w.heap.size := (by omega); have zr9_0 : ¬ w.heap.size = w9.heap.size + 1 := (by omega); have zx9_1 : w.heap.size + 1 < w9.heap.size := (by first | omega | (simp at hzs9; omega)); have zy9_1 : w.heap.size + 1 < w9.heap.size + 1 := (by omega); have zw9_1 : ¬ w9.heap.size = w.heap.size + 1 := (by omega); have zv9_1 : ¬ w.heap.size + 1 = w9.heap.size := (by omega); have zu9_1 : w.heap.size + 1 < w9.heap.size + 1 + 1 := (by omega); have zt9_1 : ¬ w9.heap.size + 1 = w.heap.size + 1 := (by omega); have zr9_1 : ¬ w.heap.size + 1 = w9.heap.size + 1 := (by omega); have zx9_2 : w1.heap.size < w9.heap.size := (by first | omega | (simp at hzs9; omega)); have zy9_2 : w1.heap.size < w9.heap.size + 1 := (by omega); have zw9_2 : ¬ w9.heap.size = w1.heap.size := (by omega); have zv9_2 : ¬ w1.heap.size = w9.heap.size := (by omega); have zu9_2 : w1.heap.size < w9.heap.size + 1 + 1 := (by omega); have zt9_2 : ¬ w9.heap.size + 1 = w1.heap.size := (by omega); have zr9_2 : ¬ w1.heap.size = w9.heap.size + 1 := (by omega); have zx9_3 : w3.heap.size < w9.heap.size := (by first | omega | (simp at hzs9; omega)); have zy9_3 : w3.heap.size < w9.heap.size + 1 := (by omega); have zw9_3 : ¬ w9.heap.size = w3.heap.size := (by omega); have zv9_3 : ¬ w3.heap.size = w9.heap.size := (by omega); have zu9_3 : w3.heap.size < w9.heap.size + 1 + 1 := (by omega); have zt9_3 : ¬ w9.heap.size + 1 = w3.heap.size := (by omega); have zr9_3 : ¬ w3.heap.size = w9.heap.size + 1 := (by omega)
     have hzz9 := hg9.size
     have HO9 := hide ho9
     have HB9 := hide (And.intro (cell_grown hg9 n3g HB8.out.1) ((gfroz hg9 _ _ z38 n3g).trans HB8.out.2))
     have HT9 := hide (HT8.out.grown hg9 (by omega))
     have HC9 := hide (HC8.out.grown hg9 (by omega) n1g)
     have HRa9 := hide (mine_grow HRa8.out hg9 (by omega) nz0)
     have HRb9 := hide (mine_grow HRb8.out hg9 (by omega) nz2)
     have HG9 := hide (gr_step HG8.out hg9)
     have HS9 := hide hs9
     have z39 : w3.heap.size < w9.heap.size := by omega
     have z19 : w1.heap.size < w9.heap.size := by omega
     obtain ⟨c0, c1, c2, c3, c4, c5, c6, c7, c8, f0, f1, f2, f3, f4, f5, f6, f7, f8⟩ := HC9.out
     clear hc9 hf9 hg9 hs9 ho9 HB8 HT8 HC8 HO8 HRa8 HRb8 HG8 HS8
     go_wp2_with fail
     go_meet
     obtain ⟨wZ, hZ⟩ : ∃ x, x = ((((((((w9.setCell ⟨w1.heap.size, 0, none⟩ (.int .i64 ax9)).setCell ⟨w1.heap.size, 1, none⟩ (.int .i64 ay9)).setCell ⟨w1.heap.size, 2, none⟩ (.int .i64 bx9)).setCell ⟨w1.heap.size, 3, none⟩ (.int .i64 bY9)).setCell ⟨w1.heap.size, 4, none⟩ (.int .i64 cx9)).setCell ⟨w1.heap.size, 5, none⟩ (.int .i64 cy9)).setCell ⟨w1.heap.size, 6, none⟩ (.int .i64 dx9)).setCell ⟨w1.heap.size, 7, none⟩ (.int .i64 dy9)).setCell ⟨w1.heap.size, 8, none⟩ (.slice so9 n9 cap9) := ⟨_, rfl⟩
     have HP : Spot w1.heap.size w9 wZ := by rw [hZ]; exact (((((((((Spot.refl _ _).set).set).set).set).set).set).set).set).set
     have HCZ := hide (show CoB wZ w1.heap.size ax9 ay9 bx9 bY9 cx9 cy9 dx9 dy9 so9 n9 cap9 by rw [hZ]; exact HC9.out.put)
     rw [← hZ]
     have y31 : ¬ w3.heap.size = w1.heap.size := by omega
     have y01 : ¬ w.heap.size = w1.heap.size := by omega
     have y11 : ¬ w.heap.size + 1 = w1.heap.size := by omega
     have zZ := HP.size
     clear hZ
     exact ⟨_, ax9, ay9, bx9, bY9, cx9, cy9, dx9, dy9, so9, n9, cap9, N9, X9, Y9, S9, Z9, so2, n2, cap2, Lt, rfl, u2, u3, by omega, hn2b, hn2c, hide ⟨(HP.cell y31).trans HB9.out.1, (HP.froz' _ _).trans HB9.out.2⟩, hide (HT9.out.spot HP (by omega)), HCZ, hide ((HO9.out.spot HP (by omega)).mono (by omega)), hide (HP.mine y01 HRa9.out), hide (HP.mine y11 HRb9.out), hide (HP.src (by omega) HS9.out), hide (HP.grow (by omega) HG9.out), by omega⟩
    have d2 : (x8 == 2) = false := beq_eq_false_iff_ne.2 e2
    go_wp2_with fail
    go_meet
    exact ⟨_, ax, ay, bx, bY, cx, cy, dx, dy, some ⟨b, 0, none⟩, n, cap, N, X, Y, S, Z, so2, n2, cap2, Lt, rfl, hn9, by omega, by omega, hn2b, hn2c, HB8, HT8, HC8, HO8, HRa8, HRb8, HS8, HG8, z38⟩
   case rest =>
    clear HB8 HT8 HC8 HO8 HRa8 HRb8 HG8 HS8
    clear hn9 hn2a hn2b hn2c
    obtain ⟨k9, ax, ay, bx, bY, cx, cy, dx, dy, so, n, cap, N, X, Y, S, Z, so2, n2, cap2, Lt, rfl, hn9, hnc, hn2a, hn2b, hn2c, HB, HT, HC, HO, HRa, HRb, HS, HG, zc3⟩ := hcut
    obtain ⟨c0, c1, c2, c3, c4, c5, c6, c7, c8, f0, f1, f2, f3, f4, f5, f6, f7, f8⟩ := HC.out
    obtain ⟨m0, m1⟩ := HB.out
    obtain ⟨v0, cy0, fy0⟩ := HRa.out.cells 0 (by decide)
    obtain ⟨v1, cy1, fy1⟩ := HRa.out.cells 1 (by decide)
    obtain ⟨v2, cy2, fy2⟩ := HRa.out.cells 2 (by decide)
    obtain ⟨v3, cy3, fy3⟩ := HRa.out.cells 3 (by decide)
    obtain ⟨v4, cy4, fy4⟩ := HRa.out.cells 4 (by decide)
    obtain ⟨v5, cy5, fy5⟩ := HRa.out.cells 5 (by decide)
    obtain ⟨v6, cy6, fy6⟩ := HRa.out.cells 6 (by decide)
    obtain ⟨v7, cy7, fy7⟩ := HRa.out.cells 7 (by decide)
    obtain ⟨v8, cy8, fy8⟩ := HRa.out.cells 8 (by decide)
    obtain ⟨vt, cyt, fyt⟩ := HRb.out.cells 0 (by decide)
    have hgr := HG.out
    have hsr := HS.out
    have n1w : ¬ w1.heap.size = w.heap.size := by omega
    have n2w : ¬ w.heap.size = w1.heap.size := by omega
    have n3w : ¬ w3.heap.size = w.heap.size := by omega
    have n4w : ¬ w.heap.size = w3.heap.size := by omega
    have n5w : ¬ w3.heap.size = w.heap.size + 1 := by omega
    have n6w : ¬ w.heap.size + 1 = w3.heap.size := by omega
    go_upto_region 22 with fail
    go_region
    all_goals
     go_wp2
     simp [bodyPost, results, Tryz.results24, go_sem, *]
     exact ⟨⟨_, _, _, _, _, _, _, _, so, n, cap, N, X, Y, S, Z, k9, so2, n2, cap2, Lt, rfl, hn9, hnc, by refine OwnM.mono (B := w.heap.size + 2) ?_ (by omega); (repeat (first | with_reducible refine OwnM.far ?_ (by omega) | with_reducible refine OwnM.drew' ?_)); exact HO.out, by omega, hn2b, hn2c, by refine OwnI.mono (M := 2000000000) (B := w1.heap.size + 1) ?_ (Int.le_refl _) (by omega); (repeat (first | with_reducible refine OwnI.far ?_ (by omega) | with_reducible refine OwnI.drew' ?_)); exact HT.out⟩, gwz, swz⟩
end Go.Proofs.YthlnpcneicmblaaGreatDoor
