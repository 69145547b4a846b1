/- Walks: the draws of a wind and points that a law begins with. -/
import Derived.Test.YtkhapajjbomknaaDg
namespace Go.Proofs.Ytkhapajjbomknaa
open Go.RowKit

set_option maxRecDepth 100000 in
set_option maxHeartbeats 8000000 in
theorem spec_DrawWindwardGain (so : Option Addr) (n cap : Nat) (B : Nat → Int) (w : World) (h : RowAt w so n 1 (vb B)) (hB : ∀ i, 0 ≤ B i ∧ B i ≤ 255) (hn : n ≤ 1048576) :
    Calls Try.prog 23 #[.slice so n cap] w fun e w' => (∃ a b c d p q : Int, e = .returned (.tuple #[.agg #[.int .i64 a, .int .i64 b], .agg #[.int .i64 c, .int .i64 d], .agg #[.int .i64 p, .int .i64 q]])) ∧ Below w.heap.size w w' := by
  go_enter Try.func23, Try.ntmps23
  go_wp2_with fail; (with_reducible refine (spec_l01From so n cap B _ (RowAt.later (by repeat (first | with_reducible exact Below.refl _ _ | with_reducible assumption | with_reducible refine Below.drew ?_ | with_reducible refine below_drewN ?_ _ | with_reducible refine Below.setCell ?_ (by first | exact Nat.le_refl _ | (simp; done) | (simp; omega) | (dsimp only; omega)) _ | with_reducible refine Below.alloc ?_ (by first | exact Nat.le_refl _ | (simp; done) | (simp; omega) | (simp at *; omega)) _ | with_reducible refine bstep ?_ (by assumption))) h) hB hn).mono ?_); rintro e w1 ⟨rfl, hs1, hb1⟩
  obtain ⟨hc1, hf1⟩ := bcell hb1
  simp only [size_al] at hs1
  have hz1 := hb1.size
  simp only [size_al] at hz1
  have z0 : w.heap.size < w1.heap.size := by omega
  have z1 : w.heap.size + 1 < w1.heap.size := by omega
  have z2 : w.heap.size + 1 + 1 < w1.heap.size := by omega
  have ra0_0 : w1.cell? ⟨w.heap.size, 0, none⟩ = some (.int .i64 0) := by rw [hc1 _ _ (by first | (simp; done) | (simp; omega))]; go_simp
  have rb0_0 : w1.frozen? ⟨w.heap.size, 0, none⟩ = false := by rw [hf1 _ _ (by first | (simp; done) | (simp; omega))]; go_simp
  have ra0_1 : w1.cell? ⟨w.heap.size, 1, none⟩ = some (.int .i64 0) := by rw [hc1 _ _ (by first | (simp; done) | (simp; omega))]; go_simp
  have rb0_1 : w1.frozen? ⟨w.heap.size, 1, none⟩ = false := by rw [hf1 _ _ (by first | (simp; done) | (simp; omega))]; go_simp
  have ra1_0 : w1.cell? ⟨w.heap.size + 1, 0, none⟩ = some (.int .i64 0) := by rw [hc1 _ _ (by first | (simp; done) | (simp; omega))]; go_simp
  have rb1_0 : w1.frozen? ⟨w.heap.size + 1, 0, none⟩ = false := by rw [hf1 _ _ (by first | (simp; done) | (simp; omega))]; go_simp
  have ra1_1 : w1.cell? ⟨w.heap.size + 1, 1, none⟩ = some (.int .i64 0) := by rw [hc1 _ _ (by first | (simp; done) | (simp; omega))]; go_simp
  have rb1_1 : w1.frozen? ⟨w.heap.size + 1, 1, none⟩ = false := by rw [hf1 _ _ (by first | (simp; done) | (simp; omega))]; go_simp
  have ra2_0 : w1.cell? ⟨w.heap.size + 1 + 1, 0, none⟩ = some (.int .i64 0) := by rw [hc1 _ _ (by first | (simp; done) | (simp; omega))]; go_simp
  have rb2_0 : w1.frozen? ⟨w.heap.size + 1 + 1, 0, none⟩ = false := by rw [hf1 _ _ (by first | (simp; done) | (simp; omega))]; go_simp
  have ra2_1 : w1.cell? ⟨w.heap.size + 1 + 1, 1, none⟩ = some (.int .i64 0) := by rw [hc1 _ _ (by first | (simp; done) | (simp; omega))]; go_simp
  have rb2_1 : w1.frozen? ⟨w.heap.size + 1 + 1, 1, none⟩ = false := by rw [hf1 _ _ (by first | (simp; done) | (simp; omega))]; go_simp
  have HB1 := hide (show Below w.heap.size w w1 from (by repeat (first | with_reducible exact Below.refl _ _ | with_reducible assumption | with_reducible refine Below.drew ?_ | with_reducible refine below_drewN ?_ _ | with_reducible refine Below.setCell ?_ (by first | exact Nat.le_refl _ | (simp; done) | (simp; omega) | (dsimp only; omega)) _ | with_reducible refine Below.alloc ?_ (by first | exact Nat.le_refl _ | (simp; done) | (simp; omega) | (simp at *; omega)) _ | with_reducible refine bstep ?_ (by assumption))))
  clear hc1 hf1
  obtain ⟨g, hg⟩ : ∃ g, g = w.heap.size + 1 + 1 + 1 := ⟨_, rfl⟩
  simp only [size_al]
  rw [← hg] at hs1 ⊢
  have gl : w.heap.size ≤ g := by omega
  have g0 : ¬ w.heap.size = g := by omega
  have g1 : ¬ w.heap.size + 1 = g := by omega
  have g2 : ¬ w.heap.size + 1 + 1 = g := by omega
  have lg0 := Src.lt hs1
  clear hg
  go_wp2_with fail; (with_reducible refine (spec_l08DrawAny g _ (by repeat (first | with_reducible assumption | with_reducible refine Src.alloc ?_ _ | with_reducible refine Src.drewN ?_ _ | with_reducible refine Src.drew ?_ | with_reducible refine Src.set (by first | (dsimp only; omega) | (simp; omega)) ?_))).mono ?_); rintro e w2 ⟨⟨a, b, rfl⟩, hg2, hs2⟩; have hc2 := gcell hg2; have hf2 := gfroz hg2; have lg2 := Src.lt hs2; have nga2 : ¬ w2.heap.size = g := (by omega); have ngb2 : ¬ g = w2.heap.size := (by omega); have hzs2 := hg2.size; (try simp at hzs2); have zx2_0 : w.heap.size < w2.heap.size := (by first | omega | (simp at hzs2; omega)); have zy2_0 : w.heap.size < w2.heap.size + 1 := (by omega); have zw2_0 : ¬ w2.heap.size = w.heap.size := (by omega); have zv2_0 : ¬ w.heap.size = w2.heap.size := (by omega); have zu2_0 : w.heap.size < w2.heap.size + 1 + 1 := (by omega); have zt2_0 : ¬ w2.heap.size + 1 = w.heap.size := (by omega); have zr2_0 : ¬ w.heap.size = w2.heap.size + 1 := (by omega); have zx2_1 : w.heap.size + 1 < w2.heap.size := (by first | omega | (simp at hzs2; omega)); have zy2_1 : w.heap.size + 1 < w2.heap.size + 1 := (by omega); have zw2_1 : ¬ w2.heap.size = w.heap.size + 1 := (by omega); have zv2_1 : ¬ w.heap.size + 1 = w2.heap.size := (by omega); have zu2_1 : w.heap.size + 1 < w2.heap.size + 1 + 1 := (by omega); have zt2_1 : ¬ w2.heap.size + 1 = w.heap.size + 1 := (by omega); have zr2_1 : ¬ w.heap.size + 1 = w2.heap.size + 1 := (by omega); have zx2_2 : w.heap.size + 1 + 1 < w2.heap.size := (by first | omega | (simp at hzs2; omega)); have zy2_2 : w.heap.size + 1 + 1 < w2.heap.size + 1 := (by omega); have zw2_2 : ¬ w2.heap.size = w.heap.size + 1 + 1 := (by omega); have zv2_2 : ¬ w.heap.size + 1 + 1 = w2.heap.size := (by omega); have zu2_2 : w.heap.size + 1 + 1 < w2.heap.size + 1 + 1 := (by omega); have zt2_2 : ¬ w2.heap.size + 1 = w.heap.size + 1 + 1 := (by omega); have zr2_2 : ¬ w.heap.size + 1 + 1 = w2.heap.size + 1 := (by omega)
  go_wp2_with fail; (with_reducible refine (spec_l01DrawAny g _ (by repeat (first | with_reducible assumption | with_reducible refine Src.alloc ?_ _ | with_reducible refine Src.drewN ?_ _ | with_reducible refine Src.drew ?_ | with_reducible refine Src.set (by first | (dsimp only; omega) | (simp; omega)) ?_))).mono ?_); rintro e w3 ⟨⟨c, d, rfl⟩, hg3, hs3⟩; have hc3 := gcell hg3; have hf3 := gfroz hg3; have lg3 := Src.lt hs3; have nga3 : ¬ w3.heap.size = g := (by omega); have ngb3 : ¬ g = w3.heap.size := (by omega); have hzs3 := hg3.size; (try simp at hzs3); have zx3_0 : w.heap.size < w3.heap.size := (by first | omega | (simp at hzs3; omega)); have zy3_0 : w.heap.size < w3.heap.size + 1 := (by omega); have zw3_0 : ¬ w3.heap.size = w.heap.size := (by omega); have zv3_0 : ¬ w.heap.size = w3.heap.size := (by omega); have zu3_0 : w.heap.size < w3.heap.size + 1 + 1 := (by omega); have zt3_0 : ¬ w3.heap.size + 1 = w.heap.size := (by omega); have zr3_0 : ¬ w.heap.size = w3.heap.size + 1 := (by omega); have zx3_1 : w.heap.size + 1 < w3.heap.size := (by first | omega | (simp at hzs3; omega)); have zy3_1 : w.heap.size + 1 < w3.heap.size + 1 := (by omega); have zw3_1 : ¬ w3.heap.size = w.heap.size + 1 := (by omega); have zv3_1 : ¬ w.heap.size + 1 = w3.heap.size := (by omega); have zu3_1 : w.heap.size + 1 < w3.heap.size + 1 + 1 := (by omega); have zt3_1 : ¬ w3.heap.size + 1 = w.heap.size + 1 := (by omega); have zr3_1 : ¬ w.heap.size + 1 = w3.heap.size + 1 := (by omega); have zx3_2 : w.heap.size + 1 + 1 < w3.heap.size := (by first | omega | (simp at hzs3; omega)); have zy3_2 : w.heap.size + 1 + 1 < w3.heap.size + 1 := (by omega); have zw3_2 : ¬ w3.heap.size = w.heap.size + 1 + 1 := (by omega); have zv3_2 : ¬ w.heap.size + 1 + 1 = w3.heap.size := (by omega); have zu3_2 : w.heap.size + 1 + 1 < w3.heap.size + 1 + 1 := (by omega); have zt3_2 : ¬ w3.heap.size + 1 = w.heap.size + 1 + 1 := (by omega); have zr3_2 : ¬ w.heap.size + 1 + 1 = w3.heap.size + 1 := (by omega)
  go_wp2_with fail; (with_reducible refine (spec_l01DrawAny g _ (by repeat (first | with_reducible assumption | with_reducible refine Src.alloc ?_ _ | with_reducible refine Src.drewN ?_ _ | with_reducible refine Src.drew ?_ | with_reducible refine Src.set (by first | (dsimp only; omega) | (simp; omega)) ?_))).mono ?_); rintro e w4 ⟨⟨p, q, rfl⟩, hg4, hs4⟩; have hc4 := gcell hg4; have hf4 := gfroz hg4; have lg4 := Src.lt hs4; have nga4 : ¬ w4.heap.size = g := (by omega); have ngb4 : ¬ g = w4.heap.size := (by omega); have hzs4 := hg4.size; (try simp at hzs4); have zx4_0 : w.heap.size < w4.heap.size := (by first | omega | (simp at hzs4; omega)); have zy4_0 : w.heap.size < w4.heap.size + 1 := (by omega); have zw4_0 : ¬ w4.heap.size = w.heap.size := (by omega); have zv4_0 : ¬ w.heap.size = w4.heap.size := (by omega); have zu4_0 : w.heap.size < w4.heap.size + 1 + 1 := (by omega); have zt4_0 : ¬ w4.heap.size + 1 = w.heap.size := (by omega); have zr4_0 : ¬ w.heap.size = w4.heap.size + 1 := (by omega); have zx4_1 : w.heap.size + 1 < w4.heap.size := (by first | omega | (simp at hzs4; omega)); have zy4_1 : w.heap.size + 1 < w4.heap.size + 1 := (by omega); have zw4_1 : ¬ w4.heap.size = w.heap.size + 1 := (by omega); have zv4_1 : ¬ w.heap.size + 1 = w4.heap.size := (by omega); have zu4_1 : w.heap.size + 1 < w4.heap.size + 1 + 1 := (by omega); have zt4_1 : ¬ w4.heap.size + 1 = w.heap.size + 1 := (by omega); have zr4_1 : ¬ w.heap.size + 1 = w4.heap.size + 1 := (by omega); have zx4_2 : w.heap.size + 1 + 1 < w4.heap.size := (by first | omega | (simp at hzs4; omega)); have zy4_2 : w.heap.size + 1 + 1 < w4.heap.size + 1 := (by omega); have zw4_2 : ¬ w4.heap.size = w.heap.size + 1 + 1 := (by omega); have zv4_2 : ¬ w.heap.size + 1 + 1 = w4.heap.size := (by omega); have zu4_2 : w.heap.size + 1 + 1 < w4.heap.size + 1 + 1 := (by omega); have zt4_2 : ¬ w4.heap.size + 1 = w.heap.size + 1 + 1 := (by omega); have zr4_2 : ¬ w.heap.size + 1 + 1 = w4.heap.size + 1 := (by omega)
  have HB4 := below_gr (below_gr (below_gr HB1.out hg2 (by omega) gl) hg3 (by omega) gl) hg4 (by omega) gl
  go_wp2
  simp [bodyPost, results, Try.results23, go_sem, *]
  first | exact ⟨⟨_, _, _, _, _, _, rfl⟩, (by repeat (first | with_reducible exact Below.refl _ _ | with_reducible assumption | with_reducible refine Below.drew ?_ | with_reducible refine below_drewN ?_ _ | with_reducible refine Below.setCell ?_ (by first | exact Nat.le_refl _ | (simp; done) | (simp; omega) | (dsimp only; omega)) _ | with_reducible refine Below.alloc ?_ (by first | exact Nat.le_refl _ | (simp; done) | (simp; omega) | (simp at *; omega)) _ | with_reducible refine bstep ?_ (by assumption)))⟩ | exact (by repeat (first | with_reducible exact Below.refl _ _ | with_reducible assumption | with_reducible refine Below.drew ?_ | with_reducible refine below_drewN ?_ _ | with_reducible refine Below.setCell ?_ (by first | exact Nat.le_refl _ | (simp; done) | (simp; omega) | (dsimp only; omega)) _ | with_reducible refine Below.alloc ?_ (by first | exact Nat.le_refl _ | (simp; done) | (simp; omega) | (simp at *; omega)) _ | with_reducible refine bstep ?_ (by assumption)))
theorem infoPt : (Try.prog.info? 26).map (fun i => (i.zero, i.size, i.bytes)) = some (some (.agg #[.int .i64 0, .int .i64 0]), 2, 16) := by kernel_rfl
theorem own_kept {w W : World} {B g : Nat} {e : TypeId} {size : Nat} {v : Value} {n : Nat} {xs : List Value} (h : w.ownsRow B e size v n xs) (hg : w.grownBy W (some g)) (hl : g < B) : W.ownsRow B e size v n xs :=
  h.kept hg (by
    rcases h.2 with ⟨rfl, _⟩ | ⟨k, cap, cur, rfl, hB, _⟩
    · exact .inl rfl
    · exact .inr (by simp [Value.ownBlock]; omega))
theorem made_at (m j : Nat) (hj : j < m) : (madeCells #[Value.int .i64 0, Value.int .i64 0] m)[j]? = some (.int .i64 0) := by
  rcases (by omega : j % 2 = 0 ∨ j % 2 = 1) with k | k <;> simp [madeCells, hj, k]
theorem made_row {W : World} {e : TypeId} {m s b : Nat} (hs : s = 2) (hb : b = W.heap.size) : RowAt (W.alloc (.cells (madeCells #[.int .i64 0, .int .i64 0] (m * s)) e)) (some ⟨b, 0, none⟩) m 2 (v2 (fun _ => 0) fun _ => 0) := by
  subst hs hb
  refine own_row fun i hi j hj => ?_
  rw [World.cell?_alloc_new]
  refine (made_at (m * 2) (i * 2 + j) (by omega)).trans (congrArg some ?_)
  simp [v2]
theorem row_two {W : World} {so : Option Addr} {n c r : Nat} {V : Nat → Nat → Value} {x y : Value} (h : RowAt W so n c V) (hr : ∀ b o, so = some ⟨b, o, none⟩ → b ≠ r) : RowAt ((W.setCell ⟨r, 0, none⟩ x).setCell ⟨r, 1, none⟩ y) so n c V :=
  row_far (row_far h fun b o e _ => hr b o e) fun b o e _ => hr b o e
theorem ownL_row {w W : World} {B g : Nat} {L : List (Int × Int)} {so : Option Addr} (h : OwnL w B L so) (hg : w.grownBy W (some g)) (hl : g < B) : RowAt W so L.length 2 (v2 (LX L) (LY L)) := by
  obtain ⟨h1, ⟨rfl, h2⟩ | ⟨g', rfl, h3, h4, _⟩⟩ := h
  · exact fun i hi => absurd hi (by omega)
  · exact own_row fun i hi j hj => (gcell hg g' _ h4 (by omega)).trans (row_own h1 hi hj)
theorem ownL_far {w : World} {B : Nat} {L : List (Int × Int)} {so : Option Addr} (h : OwnL w B L so) : ∀ b o, so = some ⟨b, o, none⟩ → B ≤ b := fun b o e => by
  obtain ⟨_, ⟨rfl, _⟩ | ⟨g', rfl, h3, _⟩⟩ := h
  · cases e
  · injection e with e; injection e with e1 e2; omega
set_option maxRecDepth 100000 in
set_option maxHeartbeats 8000000 in
theorem spec_DrawWindwardBoat (so : Option Addr) (n cap : Nat) (B : Nat → Int) (w : World) (h : RowAt w so n 1 (vb B)) (hB : ∀ i, 0 ≤ B i ∧ B i ≤ 255) (hn : n ≤ 1048576) :
    Calls Try.prog 26 #[.slice so n cap] w fun e w' => (∃ (wx wy : Int) (so' : Option Addr) (m cap' : Nat) (X Y : Nat → Int), e = .returned (.tuple #[.agg #[.int .i64 wx, .int .i64 wy], .slice so' m cap']) ∧ m ≤ 17 ∧ RowAt w' so' m 2 (v2 X Y)) ∧ Below w.heap.size w w' := by
  obtain ⟨i0, hi, hz0, hz1, hz2⟩ := info_parts infoPt
  have Hi := hide hi
  have Hz := hide (And.intro hz0 (And.intro hz1 hz2))
  have hmk := fun (m : Nat) (hm : m ≤ 100) W => run_make_rowN (P := Try.prog) 50 26 i0 _ Try.underlying50 hi hz0 m (by rw [hz2]; omega) (by omega) W
  have hsz := fun m => (show (madeCells (Value.agg #[.int .i64 0, .int .i64 0]).cells (m * i0.size)).size = m * 2 by rw [size_madeCells, hz1])
  have Hmk := hide hmk
  have Hsz := hide hsz
  clear hi hz0 hz1 hz2 hmk hsz
  go_enter Try.func26, Try.ntmps26
  go_wp2_with fail; (with_reducible refine (spec_l01From so n cap B _ (RowAt.later (by repeat (first | with_reducible exact Below.refl _ _ | with_reducible assumption | with_reducible refine Below.drew ?_ | with_reducible refine below_drewN ?_ _ | with_reducible refine Below.setCell ?_ (by first | exact Nat.le_refl _ | (simp; done) | (simp; omega) | (dsimp only; omega)) _ | with_reducible refine Below.alloc ?_ (by first | exact Nat.le_refl _ | (simp; done) | (simp; omega) | (simp at *; omega)) _ | with_reducible refine bstep ?_ (by assumption))) h) hB hn).mono ?_); rintro e w1 ⟨rfl, hs1, hb1⟩
  obtain ⟨hc1, hf1⟩ := bcell hb1
  simp only [size_al] at hs1
  have hz1 := hb1.size
  simp only [size_al] at hz1
  have z0 : w.heap.size < w1.heap.size := by omega
  have ra0_0 : w1.cell? ⟨w.heap.size, 0, none⟩ = some (.int .i64 0) := by rw [hc1 _ _ (by first | (simp; done) | (simp; omega))]; go_simp
  have rb0_0 : w1.frozen? ⟨w.heap.size, 0, none⟩ = false := by rw [hf1 _ _ (by first | (simp; done) | (simp; omega))]; go_simp
  have ra0_1 : w1.cell? ⟨w.heap.size, 1, none⟩ = some (.int .i64 0) := by rw [hc1 _ _ (by first | (simp; done) | (simp; omega))]; go_simp
  have rb0_1 : w1.frozen? ⟨w.heap.size, 1, none⟩ = false := by rw [hf1 _ _ (by first | (simp; done) | (simp; omega))]; go_simp
  have HB1 := hide (show Below w.heap.size w w1 from (by repeat (first | with_reducible exact Below.refl _ _ | with_reducible assumption | with_reducible refine Below.drew ?_ | with_reducible refine below_drewN ?_ _ | with_reducible refine Below.setCell ?_ (by first | exact Nat.le_refl _ | (simp; done) | (simp; omega) | (dsimp only; omega)) _ | with_reducible refine Below.alloc ?_ (by first | exact Nat.le_refl _ | (simp; done) | (simp; omega) | (simp at *; omega)) _ | with_reducible refine bstep ?_ (by assumption))))
  clear hc1 hf1
  obtain ⟨g, hg⟩ : ∃ g, g = w.heap.size + 1 := ⟨_, rfl⟩
  simp only [size_al]
  rw [← hg] at hs1 ⊢
  have gl : w.heap.size ≤ g := by omega
  have g0 : ¬ w.heap.size = g := by omega
  have lg0 := Src.lt hs1
  clear hg
  go_wp2_with fail; (with_reducible refine (spec_l08DrawAny g _ (by repeat (first | with_reducible assumption | with_reducible refine Src.alloc ?_ _ | with_reducible refine Src.drewN ?_ _ | with_reducible refine Src.drew ?_ | with_reducible refine Src.set (by first | (dsimp only; omega) | (simp; omega)) ?_))).mono ?_); rintro e w2 ⟨⟨wx, wy, rfl⟩, hg2, hs2⟩; have hc2 := gcell hg2; have hf2 := gfroz hg2; have lg2 := Src.lt hs2; have nga2 : ¬ w2.heap.size = g := (by omega); have ngb2 : ¬ g = w2.heap.size := (by omega); have hzs2 := hg2.size; (try simp at hzs2); have zx2_0 : w.heap.size < w2.heap.size := (by first | omega | (simp at hzs2; omega)); have zy2_0 : w.heap.size < w2.heap.size + 1 := (by omega); have zw2_0 : ¬ w2.heap.size = w.heap.size := (by omega); have zv2_0 : ¬ w.heap.size = w2.heap.size := (by omega); have zu2_0 : w.heap.size < w2.heap.size + 1 + 1 := (by omega); have zt2_0 : ¬ w2.heap.size + 1 = w.heap.size := (by omega); have zr2_0 : ¬ w.heap.size = w2.heap.size + 1 := (by omega)
  have HB2 := hide (below_gr HB1.out hg2 (by omega) gl)
  have ngt : ¬ w2.heap.size + 1 = g := by omega
  go_wp2_with fail; (with_reducible refine (spec_l01Next g _ _ (by repeat (first | with_reducible assumption | with_reducible refine Src.alloc ?_ _ | with_reducible refine Src.drewN ?_ _ | with_reducible refine Src.drew ?_ | with_reducible refine Src.set (by first | (dsimp only; omega) | (simp; omega)) ?_)) (by decide)).mono ?_); rintro e w3 ⟨⟨x3, rfl, hx3⟩, hg3, hs3⟩; have hc3 := gcell hg3; have hf3 := gfroz hg3; have lg3 := Src.lt hs3; have nga3 : ¬ w3.heap.size = g := (by omega); have ngb3 : ¬ g = w3.heap.size := (by omega); have hzs3 := hg3.size; (try simp at hzs3); have zx3_0 : w.heap.size < w3.heap.size := (by first | omega | (simp at hzs3; omega)); have zy3_0 : w.heap.size < w3.heap.size + 1 := (by omega); have zw3_0 : ¬ w3.heap.size = w.heap.size := (by omega); have zv3_0 : ¬ w.heap.size = w3.heap.size := (by omega); have zu3_0 : w.heap.size < w3.heap.size + 1 + 1 := (by omega); have zt3_0 : ¬ w3.heap.size + 1 = w.heap.size := (by omega); have zr3_0 : ¬ w.heap.size = w3.heap.size + 1 := (by omega); have zx3_1 : w2.heap.size < w3.heap.size := (by first | omega | (simp at hzs3; omega)); have zy3_1 : w2.heap.size < w3.heap.size + 1 := (by omega); have zw3_1 : ¬ w3.heap.size = w2.heap.size := (by omega); have zv3_1 : ¬ w2.heap.size = w3.heap.size := (by omega); have zu3_1 : w2.heap.size < w3.heap.size + 1 + 1 := (by omega); have zt3_1 : ¬ w3.heap.size + 1 = w2.heap.size := (by omega); have zr3_1 : ¬ w2.heap.size = w3.heap.size + 1 := (by omega); have zx3_2 : w2.heap.size + 1 < w3.heap.size := (by first | omega | (simp at hzs3; omega)); have zy3_2 : w2.heap.size + 1 < w3.heap.size + 1 := (by omega); have zw3_2 : ¬ w3.heap.size = w2.heap.size + 1 := (by omega); have zv3_2 : ¬ w2.heap.size + 1 = w3.heap.size := (by omega); have zu3_2 : w2.heap.size + 1 < w3.heap.size + 1 + 1 := (by omega); have zt3_2 : ¬ w3.heap.size + 1 = w2.heap.size + 1 := (by omega); have zr3_2 : ¬ w2.heap.size + 1 = w3.heap.size + 1 := (by omega)
  obtain ⟨p1, p2⟩ := hx3 (by decide)
  clear hx3
  obtain ⟨k3, rfl⟩ := Int.eq_ofNat_of_zero_le p1
  have HB3 := hide (below_gr (show Below w.heap.size w _ from Below.alloc (Below.alloc HB2.out (by omega) _) (by simp; omega) _) hg3 (by simp; omega) gl)
  have hm := own_kept (World.ownsRow_made (base := w2.heap.size + 1) (e := 26) (size := 2) (w2.alloc (Obj.cells #[Value.int .i64 wx, Value.int .i64 wy] 25)) #[] 0 (by simp) (by decide) rfl) hg3 (by omega)
  simp only [size_al] at hm
  have Hown := hide hm
  clear hm
  have c0 : w3.cell? ⟨w2.heap.size, 0, none⟩ = some (.int .i64 wx) := by go_simp
  have c1 : w3.cell? ⟨w2.heap.size, 1, none⟩ = some (.int .i64 wy) := by go_simp
  have d0 : w3.cell? ⟨w.heap.size, 0, none⟩ = some (.int .i64 0) := by go_simp
  have d1 : w3.cell? ⟨w.heap.size, 1, none⟩ = some (.int .i64 0) := by go_simp
  have e0 : w3.frozen? ⟨w.heap.size, 0, none⟩ = false := by go_simp
  have e1 : w3.frozen? ⟨w.heap.size, 1, none⟩ = false := by go_simp
  have HS3 := hide hs3
  clear hc3 hf3 hc2 hf2
  go_wp2
  go_loopw [6, 7] (fun v i wr => ∃ (k : Nat) (L : List (Int × Int)), i = .int .i64 (k : Int) ∧ k + L.length ≤ 5 ∧ Hid (wr.ownsRow (w2.heap.size + 1) 26 2 v L.length (mcells L)) ∧ Hid (Src wr g) ∧ wr.cell? ⟨w2.heap.size, 0, none⟩ = some (.int .i64 wx) ∧ wr.cell? ⟨w2.heap.size, 1, none⟩ = some (.int .i64 wy) ∧ wr.cell? ⟨w.heap.size, 0, none⟩ = some (.int .i64 0) ∧ wr.cell? ⟨w.heap.size, 1, none⟩ = some (.int .i64 0) ∧ wr.frozen? ⟨w.heap.size, 0, none⟩ = false ∧ wr.frozen? ⟨w.heap.size, 1, none⟩ = false ∧ Below w.heap.size w wr ∧ w3.heap.size ≤ wr.heap.size) (fun _ i _ => (intOf i).toNat)
  case atStart => exact ⟨k3, [], rfl, by simp; omega, Hown, HS3, c0, c1, d0, d1, e0, e1, HB3.out, Nat.le_refl _⟩
  case round =>
    obtain ⟨k, L, rfl, hkL, HO, HS, c0, c1, d0, d1, e0, e1, hbl, hsz⟩ := hrel
    have lgr := Src.lt HS.out
    have zr0 : w.heap.size < wr.heap.size := by omega
    have zr1 : w2.heap.size < wr.heap.size := by omega
    have zr2 : w2.heap.size + 1 < wr.heap.size := by omega
    cases k with
    | succ j =>
      go_wp2_with fail; (with_reducible refine (spec_l01DrawAny g _ HS.out).mono ?_); rintro e w5 ⟨⟨px, py, rfl⟩, hg5, hs5⟩; have hc5 := gcell hg5; have hf5 := gfroz hg5; have lg5 := Src.lt hs5; have nga5 : ¬ w5.heap.size = g := (by omega); have ngb5 : ¬ g = w5.heap.size := (by omega); have hzs5 := hg5.size; (try simp at hzs5); have zx5_0 : w.heap.size < w5.heap.size := (by first | omega | (simp at hzs5; omega)); have zy5_0 : w.heap.size < w5.heap.size + 1 := (by omega); have zw5_0 : ¬ w5.heap.size = w.heap.size := (by omega); have zv5_0 : ¬ w.heap.size = w5.heap.size := (by omega); have zu5_0 : w.heap.size < w5.heap.size + 1 + 1 := (by omega); have zt5_0 : ¬ w5.heap.size + 1 = w.heap.size := (by omega); have zr5_0 : ¬ w.heap.size = w5.heap.size + 1 := (by omega); have zx5_1 : w2.heap.size < w5.heap.size := (by first | omega | (simp at hzs5; omega)); have zy5_1 : w2.heap.size < w5.heap.size + 1 := (by omega); have zw5_1 : ¬ w5.heap.size = w2.heap.size := (by omega); have zv5_1 : ¬ w2.heap.size = w5.heap.size := (by omega); have zu5_1 : w2.heap.size < w5.heap.size + 1 + 1 := (by omega); have zt5_1 : ¬ w5.heap.size + 1 = w2.heap.size := (by omega); have zr5_1 : ¬ w2.heap.size = w5.heap.size + 1 := (by omega)
      have HO5 := hide (own_kept HO.out hg5 (by omega))
      have HB5 := hide (below_gr hbl hg5 (by omega) gl)
      have m0 := hide (show w5.cell? ⟨w2.heap.size, 0, none⟩ = some (.int .i64 wx) by go_simp)
      have m1 := hide (show w5.cell? ⟨w2.heap.size, 1, none⟩ = some (.int .i64 wy) by go_simp)
      have m2 := hide (show w5.cell? ⟨w.heap.size, 0, none⟩ = some (.int .i64 0) by go_simp)
      have m3 := hide (show w5.cell? ⟨w.heap.size, 1, none⟩ = some (.int .i64 0) by go_simp)
      have m4 := hide (show w5.frozen? ⟨w.heap.size, 0, none⟩ = false by go_simp)
      have m5 := hide (show w5.frozen? ⟨w.heap.size, 1, none⟩ = false by go_simp)
      have HS5 := hide hs5
      clear hc5 hf5 hg5 hs5
      go_wp2_with (at_builtin; refine wpList_append_own _ rfl _ _ 50 rfl (w2.heap.size + 1) 26 i0 _ 2 16 Try.underlying50 Hi.out Hz.out.1 Hz.out.2.1 Hz.out.2.2 rfl (by decide) _ _ _ rfl (HO5.out.alloc _) ⟨w5.heap.size, 0, none⟩ 1 1 [.int .i64 px, .int .i64 py] rfl rfl new2 (one2 _ _) (by unfold maxLen; omega) (by omega) (by simp; omega) ?_)
      intro v' wA hown' hgrow _
      have hb := below_grown HO5.out (by omega) hgrow
      have hsA := hb.size
      have hO := hide (show wA.ownsRow (w2.heap.size + 1) 26 2 v' (L ++ [(px, py)]).length (mcells (L ++ [(px, py)])) by rw [mcells_app, List.length_append]; exact hown')
      have hS := hide (Src.keepB (hb.mono (by omega)) HS5.out)
      have hBA := hide (HB5.out.trans (hb.mono (by omega)))
      clear hgrow hown'
      go_wp2
      go_roundw
      case rel => exact ⟨j, L ++ [(px, py)], by go_num, by simp; omega, hO, hS, cell_below hb (by omega) m0.out, cell_below hb (by omega) m1.out, cell_below hb (by omega) m2.out, cell_below hb (by omega) m3.out, ((bcell hb).2 _ _ (by omega)).trans m4.out, ((bcell hb).2 _ _ (by omega)).trans m5.out, hBA.out, by omega⟩
      case measure => simp [intOf]
    | zero =>
      obtain ⟨so', cp, rfl, ho⟩ := own_of_row HO.out
      have HOl := hide ho
      clear ho
      go_wp2_with fail; (with_reducible refine (spec_l01Next g _ _ HS.out (by decide)).mono ?_); rintro e w6 ⟨⟨x6, rfl, hx6⟩, hg6, hs6⟩; have hc6 := gcell hg6; have hf6 := gfroz hg6; have lg6 := Src.lt hs6; have nga6 : ¬ w6.heap.size = g := (by omega); have ngb6 : ¬ g = w6.heap.size := (by omega); have hzs6 := hg6.size; (try simp at hzs6); have zx6_0 : w.heap.size < w6.heap.size := (by first | omega | (simp at hzs6; omega)); have zy6_0 : w.heap.size < w6.heap.size + 1 := (by omega); have zw6_0 : ¬ w6.heap.size = w.heap.size := (by omega); have zv6_0 : ¬ w.heap.size = w6.heap.size := (by omega); have zu6_0 : w.heap.size < w6.heap.size + 1 + 1 := (by omega); have zt6_0 : ¬ w6.heap.size + 1 = w.heap.size := (by omega); have zr6_0 : ¬ w.heap.size = w6.heap.size + 1 := (by omega); have zx6_1 : w2.heap.size < w6.heap.size := (by first | omega | (simp at hzs6; omega)); have zy6_1 : w2.heap.size < w6.heap.size + 1 := (by omega); have zw6_1 : ¬ w6.heap.size = w2.heap.size := (by omega); have zv6_1 : ¬ w2.heap.size = w6.heap.size := (by omega); have zu6_1 : w2.heap.size < w6.heap.size + 1 + 1 := (by omega); have zt6_1 : ¬ w6.heap.size + 1 = w2.heap.size := (by omega); have zr6_1 : ¬ w2.heap.size = w6.heap.size + 1 := (by omega)
      clear hx6
      have HB6 := hide (below_gr hbl hg6 (by omega) gl)
      by_cases k0 : x6 = 0
      · subst k0
        go_wp2_with fail; (with_reducible refine (spec_l01NextN g 2 2 _ (by repeat (first | with_reducible assumption | with_reducible refine Src.alloc ?_ _ | with_reducible refine Src.drewN ?_ _ | with_reducible refine Src.drew ?_ | with_reducible refine Src.set (by first | (dsimp only; omega) | (simp; omega)) ?_)) (by decide) (by decide) (by decide)).mono ?_); rintro e w7 ⟨⟨x7, rfl, hx7⟩, hg7, hs7⟩; have hc7 := gcell hg7; have hf7 := gfroz hg7; have lg7 := Src.lt hs7; have nga7 : ¬ w7.heap.size = g := (by omega); have ngb7 : ¬ g = w7.heap.size := (by omega); have hzs7 := hg7.size; (try simp at hzs7); have zx7_0 : w.heap.size < w7.heap.size := (by first | omega | (simp at hzs7; omega)); have zy7_0 : w.heap.size < w7.heap.size + 1 := (by omega); have zw7_0 : ¬ w7.heap.size = w.heap.size := (by omega); have zv7_0 : ¬ w.heap.size = w7.heap.size := (by omega); have zu7_0 : w.heap.size < w7.heap.size + 1 + 1 := (by omega); have zt7_0 : ¬ w7.heap.size + 1 = w.heap.size := (by omega); have zr7_0 : ¬ w.heap.size = w7.heap.size + 1 := (by omega); have zx7_1 : w2.heap.size < w7.heap.size := (by first | omega | (simp at hzs7; omega)); have zy7_1 : w2.heap.size < w7.heap.size + 1 := (by omega); have zw7_1 : ¬ w7.heap.size = w2.heap.size := (by omega); have zv7_1 : ¬ w2.heap.size = w7.heap.size := (by omega); have zu7_1 : w2.heap.size < w7.heap.size + 1 + 1 := (by omega); have zt7_1 : ¬ w7.heap.size + 1 = w2.heap.size := (by omega); have zr7_1 : ¬ w2.heap.size = w7.heap.size + 1 := (by omega)
        have HB7 := below_gr HB6.out hg7 (by omega) gl
        have hm16 := Hmk.out 16 (by decide)
        have hm17 := Hmk.out 17 (by decide)
        rw [show ((16 : Nat) : Int) = 16 from rfl] at hm16
        rw [show ((17 : Nat) : Int) = 17 from rfl] at hm17
        rcases (by omega : x7 = 0 ∨ x7 = 1) with rfl | rfl
        all_goals
          go_wp2
          simp [bodyPost, results, Try.results26, go_sem, *]
          exact ⟨⟨_, _, _, _, ⟨⟨rfl, rfl⟩, rfl, rfl⟩, by decide, fun _ => 0, fun _ => 0, made_row Hz.out.2.1 (by simp)⟩, (by repeat (first | with_reducible exact Below.refl _ _ | with_reducible assumption | with_reducible refine Below.drew ?_ | with_reducible refine below_drewN ?_ _ | with_reducible refine Below.setCell ?_ (by first | exact Nat.le_refl _ | (simp; done) | (simp; omega) | (dsimp only; omega)) _ | with_reducible refine Below.alloc ?_ (by first | exact Nat.le_refl _ | (simp; done) | (simp; omega) | (simp at *; omega)) _ | with_reducible refine bstep ?_ (by assumption)))⟩
      · have k2 : (x6 == 0) = false := beq_eq_false_iff_ne.2 k0
        have HBz := HB6.out
        have HR6 := hide (ownL_row HOl.out hg6 (by omega))
        have Hfar := hide (ownL_far HOl.out)
        go_wp2
        simp [bodyPost, results, Try.results26, go_sem, *]
        exact ⟨⟨_, _, _, _, ⟨⟨rfl, rfl⟩, rfl, rfl⟩, by omega, _, _, row_two HR6.out (fun b o e => by have := Hfar.out b o e; omega)⟩, (by repeat (first | with_reducible exact Below.refl _ _ | with_reducible assumption | with_reducible refine Below.drew ?_ | with_reducible refine below_drewN ?_ _ | with_reducible refine Below.setCell ?_ (by first | exact Nat.le_refl _ | (simp; done) | (simp; omega) | (dsimp only; omega)) _ | with_reducible refine Below.alloc ?_ (by first | exact Nat.le_refl _ | (simp; done) | (simp; omega) | (simp at *; omega)) _ | with_reducible refine bstep ?_ (by assumption)))⟩
end Go.Proofs.Ytkhapajjbomknaa
