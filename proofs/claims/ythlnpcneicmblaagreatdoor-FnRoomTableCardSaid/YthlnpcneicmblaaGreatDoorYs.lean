/- Walks: a length is drawn; what laws over a wind, a course, a mark, a list of tracks and a length begin with. -/
import Derived.Test.YthlnpcneicmblaaGreatDoorYh
import Derived.Test.YthlnpcneicmblaaGreatDoorYl
import Derived.Test.YthlnpcneicmblaaGreatDoorTm
import Derived.Test.YthlnpcneicmblaaGreatDoorDe
import Derived.Test.YthlnpcneicmblaaGreatDoorDn
import Derived.Test.YthlnpcneicmblaaGreatDoorCy
import Derived.Deep.AppendLies
import Derived.Deep.Cut
import Derived.Deep.DeepCutAuto
import Derived.Deep.CutBlock
namespace Go.Proofs.YthlnpcneicmblaaGreatDoor
open Go.RowKit
set_option maxRecDepth 100000 in
set_option maxHeartbeats 4000000 in
theorem spec_l11DrawLength (g : Nat) (w : World) (h : Src w g) : Calls Tryz.prog 17 #[.pointer (some ⟨g, 0, none⟩)] w (IntC w g) := by
 have ng := Src.lt h
 have nz0 : ¬ w.heap.size = g := by omega
 have nz1 : ¬ g = w.heap.size := by omega
 go_enter Tryz.func17, Tryz.ntmps17
 go_wp2_with fail; (with_reducible refine (spec_l01NextN g 24 24 _ h (by decide) (by decide) (by decide)).mono ?_); rintro e w1 ⟨⟨x1, rfl, hx1⟩, hg1, hs1⟩; have hc1 := gcell hg1; have hf1 := gfroz hg1; have lg1 := Src.lt hs1; have nga1 : ¬ w1.heap.size = g := (by omega); have ngb1 : ¬ g = w1.heap.size := (by omega); have hzs1 := hg1.size; (try simp at hzs1)
 clear hx1
 by_cases k1 : x1 = 0
 ·subst k1
  go_wp2_with fail; (with_reducible refine (spec_l01NextN g 3 3 _ swz (by decide) (by decide) (by decide)).mono ?_); rintro e w2 ⟨⟨x2, rfl, hx2⟩, hg2, hs2⟩; have hc2 := gcell hg2; have hf2 := gfroz hg2; have lg2 := Src.lt hs2; have nga2 : ¬ w2.heap.size = g := (by omega); have ngb2 : ¬ g = w2.heap.size := (by omega); have hzs2 := hg2.size; (try simp at hzs2); have zx2_0 : w1.heap.size < w2.heap.size := (by first | omega | (simp at hzs2; omega)); have zy2_0 : w1.heap.size < w2.heap.size + 1 := (by omega); have zw2_0 : ¬ w2.heap.size = w1.heap.size := (by omega); have zv2_0 : ¬ w1.heap.size = w2.heap.size := (by omega); have zu2_0 : w1.heap.size < w2.heap.size + 1 + 1 := (by omega); have zt2_0 : ¬ w2.heap.size + 1 = w1.heap.size := (by omega); have zr2_0 : ¬ w1.heap.size = w2.heap.size + 1 := (by omega)
  rcases (by omega : x2 = 0 ∨ x2 = 1 ∨ x2 = 2) with rfl | rfl | rfl
  all_goals
   go_wp2
   go_ret
   exact ⟨⟨_, rfl⟩, gwz, swz⟩
 ·have k2 : (x1 == 0) = false := beq_eq_false_iff_ne.2 k1
  go_wp2_with fail; (with_reducible refine (spec_l01NextN g 100 100 _ hs1 (by decide) (by decide) (by decide)).mono ?_); rintro e w2 ⟨⟨x2, rfl, hx2⟩, hg2, hs2⟩; have hc2 := gcell hg2; have hf2 := gfroz hg2; have lg2 := Src.lt hs2; have nga2 : ¬ w2.heap.size = g := (by omega); have ngb2 : ¬ g = w2.heap.size := (by omega); have hzs2 := hg2.size; (try simp at hzs2)
  go_wp2
  go_ret
  exact ⟨⟨_, rfl⟩, gwz, swz⟩
/-- What DrawRoomTable returns. -/
def PDrawRoomTable (w : World) (e : Ending) (w' : World) : Prop := (∃ (wx wy ax ay bx bY cx cy dx dy : Int) (cs : Option Addr) (m mcap : Nat) (N : Nat → ByteArray) (X Y S Z : Nat → Int) (k : Int) (so2 : Option Addr) (n2 cap2 : Nat) (A : Nat → Option Addr) (nn C : Nat → Nat) (T U V : Nat → Nat → Int) (len : Int), e = .returned (.tuple #[.agg #[.int .i64 wx, .int .i64 wy], .agg #[.int .i64 ax, .int .i64 ay, .int .i64 bx, .int .i64 bY, .int .i64 cx, .int .i64 cy, .int .i64 dx, .int .i64 dy, .slice cs m mcap], .int .i64 k, .slice so2 n2 cap2, .int .i64 len]) ∧ m ≤ 9 ∧ m ≤ mcap ∧ n2 ≤ 17 ∧ (∀ i, i < n2 → nn i ≤ 41) ∧ RowAt w' cs m 5 (v5 N X Y S Z) ∧ Trs w' so2 n2 A nn C T U V) ∧ Below w.heap.size w w'
theorem PDrawRoomTable.mk {w W' : World} {D B M : Nat} {v : Value} {wx wy ax ay bx bY cx cy dx dy k len : Int} {cs : Option Addr} {m mcap : Nat} {N : Nat → ByteArray} {X Y S Z : Nat → Int} (q1 : m ≤ 9) (q2 : m ≤ mcap) (hM : M ≤ 17) (ho : RowAt W' cs m 5 (v5 N X Y S Z)) (hT : Trk W' D B v M) (hb : Below w.heap.size w W') :
 PDrawRoomTable w (.returned (.tuple #[.agg #[.int .i64 wx, .int .i64 wy], .agg #[.int .i64 ax, .int .i64 ay, .int .i64 bx, .int .i64 bY, .int .i64 cx, .int .i64 cy, .int .i64 dx, .int .i64 dy, .slice cs m mcap], .int .i64 k, v, .int .i64 len])) W' := by
 obtain ⟨so2, cap2, A, nn, C, T, U, V, rfl, h1, h2⟩ := hT.read
 exact ⟨⟨_, _, _, _, _, _, _, _, _, _, cs, m, mcap, N, X, Y, S, Z, k, so2, M, cap2, A, nn, C, T, U, V, len, rfl, q1, q2, hM, h2, ho, h1⟩, hb⟩
set_option maxRecDepth 100000 in
set_option maxHeartbeats 16000000 in
theorem spec_DrawRoomTable (so : Option Addr) (n cap : Nat) (B : Nat → Int) (w : World) (h : RowAt w so n 1 (vb B)) (hB : ∀ i, 0 ≤ B i ∧ B i ≤ 255) (hn : n ≤ 1048576) :
 Calls Tryz.prog 5 #[.slice so n cap] w (PDrawRoomTable w) := by
 obtain ⟨i0, hi, hz0, hz1, hz2⟩ := info_parts infoTrk
 have HMK := hide (fun (M : Nat) (hM : M ≤ 1000) W => run_make_rowN (P := Tryz.prog) 32 45 i0 _ Tryz.underlying32 hi hz0 M (by rw [hz2]; omega) (by omega) W)
 have Hi := hide hi
 have Hz := hide (And.intro hz0 (And.intro hz1 hz2))
 clear hi hz0 hz1 hz2
 go_enter Tryz.func5, Tryz.ntmps5
 go_wp2_with fail; (with_reducible refine (spec_l01From so n cap B _ (RowAt.later bwz h) hB hn).mono ?_); rintro e w1 ⟨rfl, hs1, hb1⟩
 simp only [size_al] at hs1
 have hz1 := hb1.size
 simp only [size_al] at hz1
 have HRa0 := hide (Mine.later hb1 (Mine.later (Below.alloc (Below.refl _ _) (Nat.le_refl _) (.cells #[.int .i64 0, .int .i64 0, .int .i64 0, .int .i64 0, .int .i64 0, .int .i64 0, .int .i64 0, .int .i64 0, .slice none 0 0] 31)) (mine_make (w := w) (c := #[.int .i64 0, .int .i64 0]) (t := 25) (m := 2) rfl)))
 have HRb0 := hide (Mine.later hb1 (mine_make (w := w.alloc (.cells #[.int .i64 0, .int .i64 0] 25)) (c := #[.int .i64 0, .int .i64 0, .int .i64 0, .int .i64 0, .int .i64 0, .int .i64 0, .int .i64 0, .int .i64 0, .slice none 0 0]) (t := 31) (m := 9) rfl))
 simp only [size_al] at HRb0
 have HB1 := hide (show Below w.heap.size w w1 from bwz)
 clear hb1 h hB hn
 obtain ⟨g, hg⟩ : ∃ g, g = w.heap.size + 1 + 1 := ⟨_, rfl⟩
 simp only [size_al]
 rw [← hg] at hs1 ⊢
 have gl : w.heap.size ≤ g := by omega
 have g0 : ¬ w.heap.size = g := by omega
 have g0' : ¬ g = w.heap.size := by omega
 have g1 : ¬ w.heap.size + 1 = g := by omega
 have g1' : ¬ g = w.heap.size + 1 := by omega
 have zw0 : w.heap.size < w1.heap.size := by omega
 have zw1 : w.heap.size + 1 < w1.heap.size := by omega
 have lg0 := Src.lt hs1
 clear hg
 go_wp2_with fail; (with_reducible refine (spec_l08DrawAny g _ hs1).mono ?_); rintro e w2 ⟨⟨wx, wy, rfl⟩, hg2, hs2⟩; have hc2 := gcell hg2; have hf2 := gfroz hg2; have lg2 := Src.lt hs2; have nga2 : ¬ w2.heap.size = g := (by omega); have ngb2 : ¬ g = w2.heap.size := (by omega); have hzs2 := hg2.size; (try simp at hzs2); have zx2_0 : w.heap.size < w2.heap.size := (by first | omega | (simp at hzs2; omega)); have zy2_0 : w.heap.size < w2.heap.size + 1 := (by omega); have zw2_0 : ¬ w2.heap.size = w.heap.size := (by omega); have zv2_0 : ¬ w.heap.size = w2.heap.size := (by omega); have zu2_0 : w.heap.size < w2.heap.size + 1 + 1 := (by omega); have zt2_0 : ¬ w2.heap.size + 1 = w.heap.size := (by omega); have zr2_0 : ¬ w.heap.size = w2.heap.size + 1 := (by omega); have zx2_1 : w.heap.size + 1 < w2.heap.size := (by first | omega | (simp at hzs2; omega)); have zy2_1 : w.heap.size + 1 < w2.heap.size + 1 := (by omega); have zw2_1 : ¬ w2.heap.size = w.heap.size + 1 := (by omega); have zv2_1 : ¬ w.heap.size + 1 = w2.heap.size := (by omega); have zu2_1 : w.heap.size + 1 < w2.heap.size + 1 + 1 := (by omega); have zt2_1 : ¬ w2.heap.size + 1 = w.heap.size + 1 := (by omega); have zr2_1 : ¬ w.heap.size + 1 = w2.heap.size + 1 := (by omega)
 have hzz2 := hg2.size
 have HB2 := hide (below_gr HB1.out hg2 (by omega) gl)
 have HRa2 := hide (mine_grow HRa0.out hg2 zw0 g0)
 have HRb2 := hide (mine_grow HRb0.out hg2 zw1 g1)
 have HS2 := hide hs2
 have gw2 : ¬ w2.heap.size = g := by omega
 clear hc2 hf2 hg2 hs2 HRa0 HRb0 HB1 hs1
 go_wp2_with fail; (with_reducible refine (spec_l11DrawTracks g _ (Src.alloc HS2.out _)).mono ?_); rintro e w3 ⟨⟨ax, ay, bx, bY, cx, cy, dx, dy, cs, m, mcap, N, X, Y, S, Z, k, so2, n2, cap2, Lt, so3, n3, cap3, Lu, rfl, q1, q2, ho, q4, q5, ht, q6, q7, hu⟩, hg3, hs3⟩; have hc3 := gcell hg3; have hf3 := gfroz hg3; have lg3 := Src.lt hs3; have nga3 : ¬ w3.heap.size = g := (by omega); have ngb3 : ¬ g = w3.heap.size := (by omega); have hzs3 := hg3.size; (try simp at hzs3); have zx3_0 : w.heap.size < w3.heap.size := (by first | omega | (simp at hzs3; omega)); have zy3_0 : w.heap.size < w3.heap.size + 1 := (by omega); have zw3_0 : ¬ w3.heap.size = w.heap.size := (by omega); have zv3_0 : ¬ w.heap.size = w3.heap.size := (by omega); have zu3_0 : w.heap.size < w3.heap.size + 1 + 1 := (by omega); have zt3_0 : ¬ w3.heap.size + 1 = w.heap.size := (by omega); have zr3_0 : ¬ w.heap.size = w3.heap.size + 1 := (by omega); have zx3_1 : w.heap.size + 1 < w3.heap.size := (by first | omega | (simp at hzs3; omega)); have zy3_1 : w.heap.size + 1 < w3.heap.size + 1 := (by omega); have zw3_1 : ¬ w3.heap.size = w.heap.size + 1 := (by omega); have zv3_1 : ¬ w.heap.size + 1 = w3.heap.size := (by omega); have zu3_1 : w.heap.size + 1 < w3.heap.size + 1 + 1 := (by omega); have zt3_1 : ¬ w3.heap.size + 1 = w.heap.size + 1 := (by omega); have zr3_1 : ¬ w.heap.size + 1 = w3.heap.size + 1 := (by omega); have zx3_2 : w2.heap.size < w3.heap.size := (by first | omega | (simp at hzs3; omega)); have zy3_2 : w2.heap.size < w3.heap.size + 1 := (by omega); have zw3_2 : ¬ w3.heap.size = w2.heap.size := (by omega); have zv3_2 : ¬ w2.heap.size = w3.heap.size := (by omega); have zu3_2 : w2.heap.size < w3.heap.size + 1 + 1 := (by omega); have zt3_2 : ¬ w3.heap.size + 1 = w2.heap.size := (by omega); have zr3_2 : ¬ w2.heap.size = w3.heap.size + 1 := (by omega)
 have hzz3 := hg3.size
 simp only [size_al] at hzz3
 have hal := Below.alloc (Below.refl w2.heap.size w2) (Nat.le_refl _) (.cells #[.int .i64 wx, .int .i64 wy] 25)
 have HO := hide (ho.mono (show w2.heap.size ≤ _ by simp))
 have HT := hide (ht.mono (Int.le_refl _) (show w2.heap.size ≤ _ by simp))
 have HU := hide (hu.mono (Int.le_refl _) (show w2.heap.size ≤ _ by simp))
 have HB3 := hide (below_gr (Below.alloc HB2.out (by omega) (.cells #[.int .i64 wx, .int .i64 wy] 25)) hg3 (by simp; omega) gl)
 have HRa3 := hide (mine_grow (Mine.later hal HRa2.out) hg3 (by simp; omega) g0)
 have HRb3 := hide (mine_grow (Mine.later hal HRb2.out) hg3 (by simp; omega) g1)
 have hwx : w3.cell? ⟨w2.heap.size, 0, none⟩ = some (.int .i64 wx) := by go_simp
 have hwy : w3.cell? ⟨w2.heap.size, 1, none⟩ = some (.int .i64 wy) := by go_simp
 have HS3 := hide hs3
 clear hal ho ht hu hc3 hf3 hg3 hs3 HB2 HRa2 HRb2 HS2
 go_upto_region 4 with fail
 obtain ⟨wB, hB9⟩ : ∃ W, W = ((w3.alloc (.cells #[.int .i64 ax, .int .i64 ay, .int .i64 bx, .int .i64 bY, .int .i64 cx, .int .i64 cy, .int .i64 dx, .int .i64 dy, .slice cs m mcap] 31)).alloc (.cells #[.slice so2 n2 cap2] 45)).alloc (.cells #[.slice so3 n3 cap3] 45) := ⟨_, rfl⟩
 have hal3 : ∀ W : World, W = ((w3.alloc (.cells #[.int .i64 ax, .int .i64 ay, .int .i64 bx, .int .i64 bY, .int .i64 cx, .int .i64 cy, .int .i64 dx, .int .i64 dy, .slice cs m mcap] 31)).alloc (.cells #[.slice so2 n2 cap2] 45)).alloc (.cells #[.slice so3 n3 cap3] 45) → Below w3.heap.size w3 W := fun W e => by rw [e]; exact Below.alloc (Below.alloc (Below.alloc (Below.refl _ _) (Nat.le_refl _) _) (by simp) _) (by simp; omega) _
 have hbB := hal3 wB hB9
 have szB : wB.heap.size ≤ w3.heap.size + 1 + 1 + 1 := by rw [hB9]; simp
 have szC : w3.heap.size + 1 + 1 + 1 ≤ wB.heap.size := by rw [hB9]; simp
 have sB := Src.keep hbB HS3.out
 have HBB := hide (show Below w.heap.size w wB from bstep HB3.out hbB)
 have HoB := hide (HO.out.later hbB)
 have HtB := hide (HT.out.later hbB)
 have HuB := hide (HU.out.later hbB)
 have HRa := hide (Mine.later hbB HRa3.out)
 have HRb := hide (Mine.later hbB HRb3.out)
 have bwx := cell_later hbB hwx
 have bwy := cell_later hbB hwy
 have tt0 : wB.cell? ⟨w3.heap.size + 1, 0, none⟩ = some (.slice so2 n2 cap2) := by rw [hB9]; go_simp
 have tu0 : wB.cell? ⟨w3.heap.size + 1 + 1, 0, none⟩ = some (.slice so3 n3 cap3) := by rw [hB9]; go_simp
 have HCB := hide (show CoB wB w3.heap.size ax ay bx bY cx cy dx dy cs m mcap by rw [hB9]; exact ⟨by go_simp, by go_simp, by go_simp, by go_simp, by go_simp, by go_simp, by go_simp, by go_simp, by go_simp, by go_simp, by go_simp, by go_simp, by go_simp, by go_simp, by go_simp, by go_simp, by go_simp, by go_simp⟩)
 rw [← hB9]
 clear hB9 hal3 hbB HO HT HU HB3 HRa3 HRb3 hwx hwy HS3
 have HK0 := hide (Trk.two (B := wB.heap.size) (Nat.le_refl _) q4 q5 HtB.out q6 q7 HuB.out)
 have gw3 : ¬ w3.heap.size = g := by omega
 have lgB := Src.lt sB
 go_upto_region 5 with fail
 go_cut [34] (fun s W => (∃ b : Bool, s = .bool b) ∧ Hid (Trk W w2.heap.size wB.heap.size (.slice (some ⟨wB.heap.size, 0, none⟩) 2 2) 2) ∧ Hid (Src W g) ∧ Hid (wB.grownBy W (some g)))
 case first =>
  go_wp2_with fail; (with_reducible refine (spec_l01NextN g 2 2 _ (Src.alloc sB _) (by decide) (by decide) (by decide)).mono ?_); rintro e w4 ⟨⟨x4, rfl, hx4⟩, hg4, hs4⟩; have hc4 := gcell hg4; have hf4 := gfroz hg4; have lg4 := Src.lt hs4; have nga4 : ¬ w4.heap.size = g := (by omega); have ngb4 : ¬ g = w4.heap.size := (by omega); have hzs4 := hg4.size; (try simp at hzs4); have zx4_0 : w.heap.size < w4.heap.size := (by first | omega | (simp at hzs4; omega)); have zy4_0 : w.heap.size < w4.heap.size + 1 := (by omega); have zw4_0 : ¬ w4.heap.size = w.heap.size := (by omega); have zv4_0 : ¬ w.heap.size = w4.heap.size := (by omega); have zu4_0 : w.heap.size < w4.heap.size + 1 + 1 := (by omega); have zt4_0 : ¬ w4.heap.size + 1 = w.heap.size := (by omega); have zr4_0 : ¬ w.heap.size = w4.heap.size + 1 := (by omega); have zx4_1 : w2.heap.size < w4.heap.size := (by first | omega | (simp at hzs4; omega)); have zy4_1 : w2.heap.size < w4.heap.size + 1 := (by omega); have zw4_1 : ¬ w4.heap.size = w2.heap.size := (by omega); have zv4_1 : ¬ w2.heap.size = w4.heap.size := (by omega); have zu4_1 : w2.heap.size < w4.heap.size + 1 + 1 := (by omega); have zt4_1 : ¬ w4.heap.size + 1 = w2.heap.size := (by omega); have zr4_1 : ¬ w2.heap.size = w4.heap.size + 1 := (by omega); have zx4_2 : w3.heap.size < w4.heap.size := (by first | omega | (simp at hzs4; omega)); have zy4_2 : w3.heap.size < w4.heap.size + 1 := (by omega); have zw4_2 : ¬ w4.heap.size = w3.heap.size := (by omega); have zv4_2 : ¬ w3.heap.size = w4.heap.size := (by omega); have zu4_2 : w3.heap.size < w4.heap.size + 1 + 1 := (by omega); have zt4_2 : ¬ w4.heap.size + 1 = w3.heap.size := (by omega); have zr4_2 : ¬ w3.heap.size = w4.heap.size + 1 := (by omega)
  have hzz4 := hg4.size
  simp only [size_al] at hzz4
  have HK4 := hide (HK0.out.grown hg4 (by omega) (by omega))
  have HG4 := hide (gr_step (World.grownBy_alloc wB (.cells #[.slice so2 n2 cap2, .slice so3 n3 cap3] 45) (some g)) hg4)
  have HS4 := hide hs4
  have HC4 := hide (HCB.out.grown HG4.out (by omega) gw3)
  have KI := hide (spec_IsCourse ax ay bx bY cx cy dx dy cs m mcap N X Y S Z w4 (HoB.out.grown HG4.out (by omega)).row (by omega))
  clear hc4 hf4 hg4 hs4 HK0 tt0 tu0
  by_cases e4 : x4 = 0
  ·subst e4
   obtain ⟨c0, c1, c2, c3, c4, c5, c6, c7, c8, f0, f1, f2, f3, f4, f5, f6, f7, f8⟩ := HC4.out
   go_wp2_with fail; (with_reducible refine (KI.out).mono ?_); rintro e w5 ⟨rfl, hb5⟩
   have HG5 := hide (gr_belowB HG4.out (hb5.mono (by have := HG4.out.size; omega)))
   go_wp2_with fail
   go_meet
   exact ⟨⟨_, rfl⟩, hide (HK4.out.later hb5), hide (Src.keep hb5 HS4.out), HG5⟩
  ·have d4 : (x4 == 0) = false := beq_eq_false_iff_ne.2 e4
   clear KI
   go_wp2_with fail
   go_meet
   exact ⟨⟨_, rfl⟩, HK4, HS4, HG4⟩
 case rest =>
  clear HK0 tt0 tu0 sB
  obtain ⟨⟨b5, rfl⟩, HK5, HS5, HG5⟩ := hcut
  obtain ⟨w5, rfl⟩ : ∃ x : World, x = wc := ⟨_, rfl⟩
  have hz5 := HG5.out.size
  go_upto_if 34 with fail
  go_cut [13] (fun s W => ∃ (q xo cp : Nat), q ≤ 17 ∧ s = .slice (some ⟨xo, 0, none⟩) q cp ∧ Hid (Trk W w2.heap.size wB.heap.size (.slice (some ⟨xo, 0, none⟩) q cp) q) ∧ Hid (Src W g) ∧ Hid (wB.grownBy W (some g)))
  case first =>
   cases b5
   ·go_wp2_with fail
    go_meet
    exact ⟨2, wB.heap.size, 2, by omega, rfl, HK5, HS5, HG5⟩
   ·have HC5 := hide (HCB.out.grown HG5.out (by omega) gw3)
    obtain ⟨xo, hxo⟩ : ∃ x, x = wB.heap.size := ⟨_, rfl⟩
    obtain ⟨c0, c1, c2, c3, c4, c5, c6, c7, c8, f0, f1, f2, f3, f4, f5, f6, f7, f8⟩ := HC5.out
    have zx1 := HK5.out.at.2
    go_wp2_with fail; (with_reducible refine (spec_l06DrawSail ax ay bx bY cx cy dx dy cs m mcap N X Y S Z g _ HS5.out (fun W hg => (HoB.out.grown (gr_step HG5.out hg) (by omega)).row) (by omega)).mono ?_); rintro e w6 ⟨⟨so5, n5, cap5, L5, rfl, u1, u2, u3, ho5⟩, hg6, hs6⟩; have hc6 := gcell hg6; have hf6 := gfroz hg6; have lg6 := Src.lt hs6; have nga6 : ¬ w6.heap.size = g := (by omega); have ngb6 : ¬ g = w6.heap.size := (by omega); have hzs6 := hg6.size; (try simp at hzs6); have zx6_0 : w.heap.size < w6.heap.size := (by first | omega | (simp at hzs6; omega)); have zy6_0 : w.heap.size < w6.heap.size + 1 := (by omega); have zw6_0 : ¬ w6.heap.size = w.heap.size := (by omega); have zv6_0 : ¬ w.heap.size = w6.heap.size := (by omega); have zu6_0 : w.heap.size < w6.heap.size + 1 + 1 := (by omega); have zt6_0 : ¬ w6.heap.size + 1 = w.heap.size := (by omega); have zr6_0 : ¬ w.heap.size = w6.heap.size + 1 := (by omega); have zx6_1 : w2.heap.size < w6.heap.size := (by first | omega | (simp at hzs6; omega)); have zy6_1 : w2.heap.size < w6.heap.size + 1 := (by omega); have zw6_1 : ¬ w6.heap.size = w2.heap.size := (by omega); have zv6_1 : ¬ w2.heap.size = w6.heap.size := (by omega); have zu6_1 : w2.heap.size < w6.heap.size + 1 + 1 := (by omega); have zt6_1 : ¬ w6.heap.size + 1 = w2.heap.size := (by omega); have zr6_1 : ¬ w2.heap.size = w6.heap.size + 1 := (by omega); have zx6_2 : w3.heap.size < w6.heap.size := (by first | omega | (simp at hzs6; omega)); have zy6_2 : w3.heap.size < w6.heap.size + 1 := (by omega); have zw6_2 : ¬ w6.heap.size = w3.heap.size := (by omega); have zv6_2 : ¬ w3.heap.size = w6.heap.size := (by omega); have zu6_2 : w3.heap.size < w6.heap.size + 1 + 1 := (by omega); have zt6_2 : ¬ w6.heap.size + 1 = w3.heap.size := (by omega); have zr6_2 : ¬ w3.heap.size = w6.heap.size + 1 := (by omega)
    have hzA := hg6.size
    have HK4 := hide (HK5.out.grown hg6 (by omega) (by omega))
    have HG4 := hide (gr_step HG5.out hg6)
    have HS4 := hide hs6
    obtain ⟨A1, nn1, C1, L1, h1, h2⟩ := HK4.out
    have HOw := hide h1
    have HH2 := hide h2
    have hr5 := ho5.mono (show (40000 : Int) ≤ 2000000000 by decide) (show w2.heap.size ≤ _ by omega)
    have HR5 := hide hr5
    have hl5 : ∀ b, so5 = some ⟨b, 0, none⟩ → b ≠ wB.heap.size := fun b e => by have := own_blk ho5 e; omega
    have HL5 := hide hl5
    clear h1 h2 ho5 hr5 hl5 HK4 hc6 hf6 hg6 hs6 c0 c1 c2 c3 c4 c5 c6 c7 c8 f0 f1 f2 f3 f4 f5 f6 f7 f8
    go_wp2_with (at_builtin; refine wpList_append_lies _ rfl _ _ 32 rfl wB.heap.size 45 i0 _ 1 24 Tryz.underlying32 Hi.out Hz.out.1 Hz.out.2.1 Hz.out.2.2 rfl (by decide) _ _ _ rfl (HOw.out.alloc _) ⟨w6.heap.size, 0, none⟩ 1 1 [.slice so5 n5 cap5] rfl rfl new1 (oneT _ _ _) (by decide) (by unfold maxLen; omega) (by omega) (by simp; omega) (w6.heap.size + 1) (by simp) ?_)
    intro g' cap' wA hown' hgr hat hlt'
    have hgr2 : (w6.alloc (.cells #[.slice so5 n5 cap5] 45)).grownBy wA (some wB.heap.size) := hgr
    have hb := below_grown HOw.out (by omega) hgr
    have hsA := World.grownBy.size hgr
    simp only [size_al] at hsA
    have hat2 : g' = wB.heap.size ∨ (w6.alloc (.cells #[.slice so5 n5 cap5] 45)).heap.size ≤ g' := hat.imp (fun e => by simp only [Value.ownBlock, Option.some.injEq] at e; exact e.symm) (fun e => by simp; omega)
    have hal := Below.alloc (Below.refl w6.heap.size w6) (Nat.le_refl _) (.cells #[.slice so5 n5 cap5] 45)
    have HKA := hide (Trk.app (w := w6.alloc (.cells #[.slice so5 n5 cap5] 45)) (fun i hi => ⟨(HH2.out i hi).1, (HH2.out i hi).2.1, (HH2.out i hi).2.2.1.later hal, fun b e => ⟨by simp; have := ((HH2.out i hi).2.2.2 b e).1; omega, ((HH2.out i hi).2.2.2 b e).2⟩⟩) (by omega) u3 (HR5.out.later hal) HL5.out hown' hgr2 hat2)
    have HSA := hide (Src.keepB (hb.mono (by omega)) HS4.out)
    have HGA := hide (gr_belowB HG4.out hb)
    have zgA : w2.heap.size < wA.heap.size := by omega
    have zxA : wB.heap.size < wA.heap.size := by omega
    clear hal hgr hgr2 hown' hb hat hat2 HOw HH2 HR5 HL5 HS4 HG4 u1 u2 u3
    go_wp2_with fail
    go_meet
    exact ⟨3, g', cap', by omega, rfl, HKA, HSA, HGA⟩
  case rest =>
   clear HK5 HS5 HG5
   obtain ⟨q, xo, cp, q17, rfl, HK6, HS6, HG6⟩ := hcut
   obtain ⟨w6, rfl⟩ : ∃ x : World, x = wc := ⟨_, rfl⟩
   have hz6 := HG6.out.size
   go_wp2_with fail; (with_reducible refine (spec_l01NextN g 30 30 _ HS6.out (by decide) (by decide) (by decide)).mono ?_); rintro e w7 ⟨⟨x7, rfl, hx7⟩, hg7, hs7⟩; have hc7 := gcell hg7; have hf7 := gfroz hg7; have lg7 := Src.lt hs7; have nga7 : ¬ w7.heap.size = g := (by omega); have ngb7 : ¬ g = w7.heap.size := (by omega); have hzs7 := hg7.size; (try simp at hzs7); have zx7_0 : w.heap.size < w7.heap.size := (by first | omega | (simp at hzs7; omega)); have zy7_0 : w.heap.size < w7.heap.size + 1 := (by omega); have zw7_0 : ¬ w7.heap.size = w.heap.size := (by omega); have zv7_0 : ¬ w.heap.size = w7.heap.size := (by omega); have zu7_0 : w.heap.size < w7.heap.size + 1 + 1 := (by omega); have zt7_0 : ¬ w7.heap.size + 1 = w.heap.size := (by omega); have zr7_0 : ¬ w.heap.size = w7.heap.size + 1 := (by omega); have zx7_1 : w2.heap.size < w7.heap.size := (by first | omega | (simp at hzs7; omega)); have zy7_1 : w2.heap.size < w7.heap.size + 1 := (by omega); have zw7_1 : ¬ w7.heap.size = w2.heap.size := (by omega); have zv7_1 : ¬ w2.heap.size = w7.heap.size := (by omega); have zu7_1 : w2.heap.size < w7.heap.size + 1 + 1 := (by omega); have zt7_1 : ¬ w7.heap.size + 1 = w2.heap.size := (by omega); have zr7_1 : ¬ w2.heap.size = w7.heap.size + 1 := (by omega); have zx7_2 : w3.heap.size < w7.heap.size := (by first | omega | (simp at hzs7; omega)); have zy7_2 : w3.heap.size < w7.heap.size + 1 := (by omega); have zw7_2 : ¬ w7.heap.size = w3.heap.size := (by omega); have zv7_2 : ¬ w3.heap.size = w7.heap.size := (by omega); have zu7_2 : w3.heap.size < w7.heap.size + 1 + 1 := (by omega); have zt7_2 : ¬ w7.heap.size + 1 = w3.heap.size := (by omega); have zr7_2 : ¬ w3.heap.size = w7.heap.size + 1 := (by omega)
   have hzz7 := hg7.size
   have HK7 := hide (HK6.out.grown hg7 (by omega) (by omega))
   have HG7 := hide (gr_step HG6.out hg7)
   have HS7 := hide hs7
   clear hc7 hf7 hg7 hs7 HK6 HG6 HS6
   go_upto_if 43 with fail
   go_cut [13] (fun s W => ∃ (q xo cp : Nat), q ≤ 17 ∧ s = .slice (some ⟨xo, 0, none⟩) q cp ∧ Hid (Trk W w2.heap.size wB.heap.size (.slice (some ⟨xo, 0, none⟩) q cp) q) ∧ Hid (Src W g) ∧ Hid (wB.grownBy W (some g)))
   case first =>
    by_cases e7 : x7 = 0
    ·subst e7
     go_wp2_with fail; (with_reducible refine (spec_l01NextN g 2 2 _ HS7.out (by decide) (by decide) (by decide)).mono ?_); rintro e w8 ⟨⟨x8, rfl, hx8⟩, hg8, hs8⟩; have hc8 := gcell hg8; have hf8 := gfroz hg8; have lg8 := Src.lt hs8; have nga8 : ¬ w8.heap.size = g := (by omega); have ngb8 : ¬ g = w8.heap.size := (by omega); have hzs8 := hg8.size; (try simp at hzs8); have zx8_0 : w.heap.size < w8.heap.size := (by first | omega | (simp at hzs8; omega)); have zy8_0 : w.heap.size < w8.heap.size + 1 := (by omega); have zw8_0 : ¬ w8.heap.size = w.heap.size := (by omega); have zv8_0 : ¬ w.heap.size = w8.heap.size := (by omega); have zu8_0 : w.heap.size < w8.heap.size + 1 + 1 := (by omega); have zt8_0 : ¬ w8.heap.size + 1 = w.heap.size := (by omega); have zr8_0 : ¬ w.heap.size = w8.heap.size + 1 := (by omega); have zx8_1 : w2.heap.size < w8.heap.size := (by first | omega | (simp at hzs8; omega)); have zy8_1 : w2.heap.size < w8.heap.size + 1 := (by omega); have zw8_1 : ¬ w8.heap.size = w2.heap.size := (by omega); have zv8_1 : ¬ w2.heap.size = w8.heap.size := (by omega); have zu8_1 : w2.heap.size < w8.heap.size + 1 + 1 := (by omega); have zt8_1 : ¬ w8.heap.size + 1 = w2.heap.size := (by omega); have zr8_1 : ¬ w2.heap.size = w8.heap.size + 1 := (by omega); have zx8_2 : w3.heap.size < w8.heap.size := (by first | omega | (simp at hzs8; omega)); have zy8_2 : w3.heap.size < w8.heap.size + 1 := (by omega); have zw8_2 : ¬ w8.heap.size = w3.heap.size := (by omega); have zv8_2 : ¬ w3.heap.size = w8.heap.size := (by omega); have zu8_2 : w3.heap.size < w8.heap.size + 1 + 1 := (by omega); have zt8_2 : ¬ w8.heap.size + 1 = w3.heap.size := (by omega); have zr8_2 : ¬ w3.heap.size = w8.heap.size + 1 := (by omega)
     have hzz8 := hg8.size
     have HG8 := hide (gr_step HG7.out hg8)
     have HS8 := hide hs8
     obtain ⟨M, hM⟩ : ∃ M, M = 16 + x8 := ⟨_, rfl⟩
     have wM : IntKind.i64.wrap (16 + (x8 : Int)) = (M : Int) := by rw [IntWalk.i64_in _ (by omega)]; omega
     have hmk := HMK.out M (by omega)
     rw [Hz.out.2.1] at hmk
     have hM17 : M ≤ 17 := by omega
     have hKm := hide (Trk.made (w := w8) (D := w2.heap.size) (B := wB.heap.size) (m := M) (by omega) (by omega))
     have HGM := hide (gr_alloc HG8.out (.cells (madeCells #[.slice none 0 0] M) 45))
     clear hM hc8 hf8 hg8 hs8 HG7 HS7 HK7 HG8
     go_wp2_with fail
     go_meet
     exact ⟨M, w8.heap.size, M, hM17, rfl, hKm, hide (Src.alloc HS8.out _), HGM⟩
    ·have d7 : (x7 == 0) = false := beq_eq_false_iff_ne.2 e7
     go_wp2_with fail
     go_meet
     exact ⟨q, xo, cp, q17, rfl, HK7, HS7, HG7⟩
   case rest =>
    clear HK7 HS7 HG7 q17
    obtain ⟨q, xo, cp, q17, rfl, HKE, HSE, HGE⟩ := hcut
    obtain ⟨wE, rfl⟩ : ∃ x : World, x = wc := ⟨_, rfl⟩
    have hzE := HGE.out.size
    have HCE := hide (HCB.out.grown HGE.out (by omega) gw3)
    have HRaE := hide (mine_grow HRa.out HGE.out (by omega) g0)
    have HRbE := hide (mine_grow HRb.out HGE.out (by omega) g1)
    have HOE := hide (HoB.out.grown HGE.out (by omega))
    have HBE := hide (below_gr HBB.out HGE.out (by omega) gl)
    have ewx := cell_grown HGE.out gw2 bwx
    have ewy := cell_grown HGE.out gw2 bwy
    obtain ⟨c0, c1, c2, c3, c4, c5, c6, c7, c8, f0, f1, f2, f3, f4, f5, f6, f7, f8⟩ := HCE.out
    obtain ⟨va0, ca0, fa0⟩ := HRaE.out.cells 0 (by decide)
    obtain ⟨va1, ca1, fa1⟩ := HRaE.out.cells 1 (by decide)
    obtain ⟨v0, cy0, fy0⟩ := HRbE.out.cells 0 (by decide)
    obtain ⟨v1, cy1, fy1⟩ := HRbE.out.cells 1 (by decide)
    obtain ⟨v2, cy2, fy2⟩ := HRbE.out.cells 2 (by decide)
    obtain ⟨v3, cy3, fy3⟩ := HRbE.out.cells 3 (by decide)
    obtain ⟨v4, cy4, fy4⟩ := HRbE.out.cells 4 (by decide)
    obtain ⟨v5, cy5, fy5⟩ := HRbE.out.cells 5 (by decide)
    obtain ⟨v6, cy6, fy6⟩ := HRbE.out.cells 6 (by decide)
    obtain ⟨v7, cy7, fy7⟩ := HRbE.out.cells 7 (by decide)
    obtain ⟨v8, cy8, fy8⟩ := HRbE.out.cells 8 (by decide)
    have sE := HSE.out
    have zb0 : w.heap.size < wE.heap.size := by omega
    have zb1 : w.heap.size + 1 < wE.heap.size := by omega
    have zb2 : w2.heap.size < wE.heap.size := by omega
    have zb3 : w3.heap.size < wE.heap.size := by omega
    have hgE := World.grownBy.refl wE (some g)
    clear bwx bwy
    go_upto_region 9 with fail
    have HwE : World.grownBy wE wE (some g) := gwz
    have HcE0 : World.cell? wE ⟨w2.heap.size, 0, none⟩ = some (.int .i64 wx) := (by go_simp)
    have HcE1 : World.cell? wE ⟨w2.heap.size, 1, none⟩ = some (.int .i64 wy) := (by go_simp)
    have HcE2 : World.cell? wE ⟨w3.heap.size, 0, none⟩ = some (.int .i64 ax) := (by go_simp)
    have HcE3 : World.cell? wE ⟨w3.heap.size, 1, none⟩ = some (.int .i64 ay) := (by go_simp)
    have HcE4 : World.cell? wE ⟨w3.heap.size, 2, none⟩ = some (.int .i64 bx) := (by go_simp)
    have HcE5 : World.cell? wE ⟨w3.heap.size, 3, none⟩ = some (.int .i64 bY) := (by go_simp)
    have HcE6 : World.cell? wE ⟨w3.heap.size, 4, none⟩ = some (.int .i64 cx) := (by go_simp)
    have HcE7 : World.cell? wE ⟨w3.heap.size, 5, none⟩ = some (.int .i64 cy) := (by go_simp)
    have HcE8 : World.cell? wE ⟨w3.heap.size, 6, none⟩ = some (.int .i64 dx) := (by go_simp)
    have HcE9 : World.cell? wE ⟨w3.heap.size, 7, none⟩ = some (.int .i64 dy) := (by go_simp)
    have HcE10 : World.cell? wE ⟨w3.heap.size, 8, none⟩ = some (.slice cs m mcap) := (by go_simp)
    refine wp_region_held_drew (S := fun W => W.cell? ⟨w2.heap.size, 0, none⟩ = some (.int .i64 wx) ∧ W.cell? ⟨w2.heap.size, 1, none⟩ = some (.int .i64 wy) ∧ W.cell? ⟨w3.heap.size, 0, none⟩ = some (.int .i64 ax) ∧ W.cell? ⟨w3.heap.size, 1, none⟩ = some (.int .i64 ay) ∧ W.cell? ⟨w3.heap.size, 2, none⟩ = some (.int .i64 bx) ∧ W.cell? ⟨w3.heap.size, 3, none⟩ = some (.int .i64 bY) ∧ W.cell? ⟨w3.heap.size, 4, none⟩ = some (.int .i64 cx) ∧ W.cell? ⟨w3.heap.size, 5, none⟩ = some (.int .i64 cy) ∧ W.cell? ⟨w3.heap.size, 6, none⟩ = some (.int .i64 dx) ∧ W.cell? ⟨w3.heap.size, 7, none⟩ = some (.int .i64 dy) ∧ W.cell? ⟨w3.heap.size, 8, none⟩ = some (.slice cs m mcap) ∧ True) (by kernel_rfl) ⟨HcE0, HcE1, HcE2, HcE3, HcE4, HcE5, HcE6, HcE7, HcE8, HcE9, HcE10, trivial⟩ (fun hHeld => ?_)
    refine tkD 0 (some 48) rfl ?_; simp only [pz]
    refine tkD 1 (some 49) rfl ?_; simp only [pz]
    refine tkD 2 (some 50) rfl ?_; simp only [pz]
    refine tkD 3 (some 51) rfl ?_; simp only [pz]
    refine tkD 4 (some 52) rfl ?_; simp only [pz]
    refine wpAnyH_inv3 (fuel := 5) [5] [] [53] (fun u L W => (World.grownBy wE W (some g) ∧ Src W g) ∧ (L 5 → FInt (u 53)) ∧ True) (by decide) (by kernel_rfl) (by kernel_rfl) (fun _ _ _ _ _ h => h) (fun u L W hJ => ⟨cell_grown hJ.1.1 (by omega) HcE0, cell_grown hJ.1.1 (by omega) HcE1, cell_grown hJ.1.1 (by omega) HcE2, cell_grown hJ.1.1 (by omega) HcE3, cell_grown hJ.1.1 (by omega) HcE4, cell_grown hJ.1.1 (by omega) HcE5, cell_grown hJ.1.1 (by omega) HcE6, cell_grown hJ.1.1 (by omega) HcE7, cell_grown hJ.1.1 (by omega) HcE8, cell_grown hJ.1.1 (by omega) HcE9, cell_grown hJ.1.1 (by omega) HcE10, trivial⟩) (fun u L hL => ⟨⟨gr_drew (World.grownBy.refl _ _), by assumption⟩, fun k => absurd k (hL 5 (by decide)), trivial⟩) ?_ ?_ ?_
    ·refine sc1 53 ?_ ?_
     rotate_left
     exact StepsH.nil
     ·intro u L W hn hd hJ
      obtain ⟨hk, f53, _⟩ := hJ
      have hnd := hk.2
      intro K hK
      simp only [puts, pz]
      go_simp; (go_at_call 17; (with_reducible refine (spec_l11DrawLength g _ hnd).mono ?_); rintro e w9 ⟨⟨xx, rfl⟩, hg, hs⟩)
      all_goals (try go_wp2_with fail)
      all_goals
       apply Shut.go3 (W := W) (g := g) hK
       ·simp only [puts, pz]; rfl
       ·exact gbz
       ·exact sbz
       ·intro hg hs; exact ⟨Dr.step hk hg hs, fun _ => by rw [upd_same]; exact ⟨_, rfl⟩, trivial⟩
    ·exact PuresH.nil
    ·intro u L W hJ hL
     obtain ⟨hk, f53, _⟩ := hJ
     obtain ⟨x53, e53⟩ := f53 (hL 5 (by kernel_rfl))
     clear hHeld; have hcW := gcell hk.1; have hfW := gfroz hk.1; have hHeld := trivial; have lW := hk.1.size
     clear f53
     simp only [puts, pz, setAll, Array.replicate, e53]
     refine rd1 6 none rfl (fun K hK => ?_)
     go_simp
     all_goals (try go_wp2_with fail)
     refine hK.out _ _ ?_ (fun hH2 => ?_)
     ·exact ⟨(by go_simp; done), (by go_simp; done), (by go_simp; done), (by go_simp; done), (by go_simp; done), (by go_simp; done), (by go_simp; done), (by go_simp; done), (by go_simp; done), (by go_simp; done), (by go_simp; done), trivial⟩
     clear hK K hHeld; (have hHeld := hH2.2.2.2.2.2.2.2.2.2.2.2); clear hH2; (try simp only [Act.put])
     refine rd1 7 none rfl (fun K hK => ?_)
     go_simp
     all_goals (try go_wp2_with fail)
     refine hK.out _ _ ?_ (fun hH2 => ?_)
     ·exact ⟨(by go_simp; done), (by go_simp; done), (by go_simp; done), (by go_simp; done), (by go_simp; done), (by go_simp; done), (by go_simp; done), (by go_simp; done), (by go_simp; done), (by go_simp; done), (by go_simp; done), trivial⟩
     clear hK K hHeld; (have hHeld := hH2.2.2.2.2.2.2.2.2.2.2.2); clear hH2; (try simp only [Act.put])
     refine rd1 8 (some 4) rfl (fun K hK => ?_)
     go_simp
     all_goals (try go_wp2_with fail)
     refine hK.out _ _ ?_ (fun hH2 => ?_)
     ·exact ⟨(by go_simp; done), (by go_simp; done), (by go_simp; done), (by go_simp; done), (by go_simp; done), (by go_simp; done), (by go_simp; done), (by go_simp; done), (by go_simp; done), (by go_simp; done), (by go_simp; done), trivial⟩
     clear hK K hHeld; (have hHeld := hH2.2.2.2.2.2.2.2.2.2.2.2); clear hH2; (try simp only [Act.put])
     refine rd1 9 (some 5) rfl (fun K hK => ?_)
     go_simp
     all_goals (try go_wp2_with fail)
     refine hK.out _ _ ?_ (fun hH2 => ?_)
     ·exact ⟨(by go_simp; done), (by go_simp; done), (by go_simp; done), (by go_simp; done), (by go_simp; done), (by go_simp; done), (by go_simp; done), (by go_simp; done), (by go_simp; done), (by go_simp; done), (by go_simp; done), trivial⟩
     clear hK K hHeld; (have hHeld := hH2.2.2.2.2.2.2.2.2.2.2.2); clear hH2; (try simp only [Act.put])
     refine rd1 10 (some 6) rfl (fun K hK => ?_)
     go_simp
     all_goals (try go_wp2_with fail)
     refine hK.out _ _ ?_ (fun hH2 => ?_)
     ·exact ⟨(by go_simp; done), (by go_simp; done), (by go_simp; done), (by go_simp; done), (by go_simp; done), (by go_simp; done), (by go_simp; done), (by go_simp; done), (by go_simp; done), (by go_simp; done), (by go_simp; done), trivial⟩
     clear hK K hHeld; (have hHeld := hH2.2.2.2.2.2.2.2.2.2.2.2); clear hH2; (try simp only [Act.put])
     refine wpAnyH_done (by kernel_rfl) ?_ _; (try simp only [pz])
     have HKF := hide (HKE.out.grown hk.1 (by omega) (by omega))
     have HOF := hide (HOE.out.grown hk.1 (by omega))
     have zE := hk.1.size
     have HBF := below_gr HBE.out hk.1 (by omega) gl
     go_wp2
     simp [bodyPost, results, Tryz.results5, go_sem, *]
     exact PDrawRoomTable.mk q1 q2 q17 (show OwnM _ w2.heap.size N X Y S Z m cs from by (repeat with_reducible refine OwnM.far ?_ (by omega)); exact HOF.out).row (show Trk _ w2.heap.size wB.heap.size _ _ from by (repeat with_reducible refine Trk.far ?_ (by omega) (by omega)); exact HKF.out) bwz
end Go.Proofs.YthlnpcneicmblaaGreatDoor
