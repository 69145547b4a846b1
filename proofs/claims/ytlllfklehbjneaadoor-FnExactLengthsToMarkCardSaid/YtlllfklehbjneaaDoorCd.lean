/- Walks: a course that came in is copied. -/
import Derived.Test.YtlllfklehbjneaaDoorCc
namespace Go.Proofs.YtlllfklehbjneaaDoor
open Go.RowKit
/-- A course whose marks are a row of the call's own. -/
def CopiedC (w : World) (ax ay bx bY cx cy dx dy : Int) (n : Nat) (V : Nat → Nat → Value) (e : Ending) (w' : World) : Prop :=
  ∃ g, e = .returned (.agg #[.int .i64 ax, .int .i64 ay, .int .i64 bx, .int .i64 bY, .int .i64 cx, .int .i64 cy, .int .i64 dx, .int .i64 dy, .slice (some ⟨g, 0, none⟩) n n]) ∧ RowAt w' (some ⟨g, 0, none⟩) n 5 V ∧ Mine w' g (n * 5) ∧ w.heap.size ≤ g ∧ g < w'.heap.size ∧ Below w.heap.size w w'
set_option maxRecDepth 100000 in
set_option maxHeartbeats 4000000 in
theorem laws_toCourse (ax ay bx bY cx cy dx dy : Int) (so : Option Addr) (n cap : Nat) (N : Nat → ByteArray) (X Y S Z : Nat → Int) (w : World) (h : RowAt w so n 5 (v5 N X Y S Z)) (hn : n ≤ 1048576) :
    Calls Tryd.prog 13 #[.agg #[.int .i64 ax, .int .i64 ay, .int .i64 bx, .int .i64 bY, .int .i64 cx, .int .i64 cy, .int .i64 dx, .int .i64 dy, .slice so n cap]] w (CopiedC w ax ay bx bY cx cy dx dy n (v5 N X Y S Z)) := by
  have KL := hide (fun (a b c d : Int) W => laws_toLine a b c d W)
  go_enter Tryd.func13, Tryd.ntmps13
  go_wp2_with fail; (with_reducible refine (KL.out _ _ _ _ _).mono ?_); rintro e w1 ⟨rfl, hb1⟩; obtain ⟨hc1, hf1⟩ := bcell hb1
  have hz1 := hb1.size
  (try simp only [size_al] at hz1)
  have zz1_0 : w.heap.size < w1.heap.size := (by first | omega | (simp at hz1; omega))
  have zz1_1 : w.heap.size + 1 < w1.heap.size := (by first | omega | (simp at hz1; omega))
  have zz1_2 : w.heap.size + 1 + 1 < w1.heap.size := (by first | omega | (simp at hz1; omega))
  have c1_0_4 : w1.cell? ⟨w.heap.size, 4, none⟩ = some (.int .i64 cx) := by rw [hc1 _ _ (by first | (simp; done) | (simp; omega))]; go_simp
  have c1_0_5 : w1.cell? ⟨w.heap.size, 5, none⟩ = some (.int .i64 cy) := by rw [hc1 _ _ (by first | (simp; done) | (simp; omega))]; go_simp
  have c1_0_6 : w1.cell? ⟨w.heap.size, 6, none⟩ = some (.int .i64 dx) := by rw [hc1 _ _ (by first | (simp; done) | (simp; omega))]; go_simp
  have c1_0_7 : w1.cell? ⟨w.heap.size, 7, none⟩ = some (.int .i64 dy) := by rw [hc1 _ _ (by first | (simp; done) | (simp; omega))]; go_simp
  have c1_0_8 : w1.cell? ⟨w.heap.size, 8, none⟩ = some (.slice so n cap) := by rw [hc1 _ _ (by first | (simp; done) | (simp; omega))]; go_simp
  have c1_1_0 : w1.cell? ⟨w.heap.size + 1, 0, none⟩ = some (.int .i64 0) := by rw [hc1 _ _ (by first | (simp; done) | (simp; omega))]; go_simp
  have d1_1_0 : w1.frozen? ⟨w.heap.size + 1, 0, none⟩ = false := by rw [hf1 _ _ (by first | (simp; done) | (simp; omega))]; go_simp
  have c1_1_1 : w1.cell? ⟨w.heap.size + 1, 1, none⟩ = some (.int .i64 0) := by rw [hc1 _ _ (by first | (simp; done) | (simp; omega))]; go_simp
  have d1_1_1 : w1.frozen? ⟨w.heap.size + 1, 1, none⟩ = false := by rw [hf1 _ _ (by first | (simp; done) | (simp; omega))]; go_simp
  have c1_1_2 : w1.cell? ⟨w.heap.size + 1, 2, none⟩ = some (.int .i64 0) := by rw [hc1 _ _ (by first | (simp; done) | (simp; omega))]; go_simp
  have d1_1_2 : w1.frozen? ⟨w.heap.size + 1, 2, none⟩ = false := by rw [hf1 _ _ (by first | (simp; done) | (simp; omega))]; go_simp
  have c1_1_3 : w1.cell? ⟨w.heap.size + 1, 3, none⟩ = some (.int .i64 0) := by rw [hc1 _ _ (by first | (simp; done) | (simp; omega))]; go_simp
  have d1_1_3 : w1.frozen? ⟨w.heap.size + 1, 3, none⟩ = false := by rw [hf1 _ _ (by first | (simp; done) | (simp; omega))]; go_simp
  have c1_1_4 : w1.cell? ⟨w.heap.size + 1, 4, none⟩ = some (.int .i64 0) := by rw [hc1 _ _ (by first | (simp; done) | (simp; omega))]; go_simp
  have d1_1_4 : w1.frozen? ⟨w.heap.size + 1, 4, none⟩ = false := by rw [hf1 _ _ (by first | (simp; done) | (simp; omega))]; go_simp
  have c1_1_5 : w1.cell? ⟨w.heap.size + 1, 5, none⟩ = some (.int .i64 0) := by rw [hc1 _ _ (by first | (simp; done) | (simp; omega))]; go_simp
  have d1_1_5 : w1.frozen? ⟨w.heap.size + 1, 5, none⟩ = false := by rw [hf1 _ _ (by first | (simp; done) | (simp; omega))]; go_simp
  have c1_1_6 : w1.cell? ⟨w.heap.size + 1, 6, none⟩ = some (.int .i64 0) := by rw [hc1 _ _ (by first | (simp; done) | (simp; omega))]; go_simp
  have d1_1_6 : w1.frozen? ⟨w.heap.size + 1, 6, none⟩ = false := by rw [hf1 _ _ (by first | (simp; done) | (simp; omega))]; go_simp
  have c1_1_7 : w1.cell? ⟨w.heap.size + 1, 7, none⟩ = some (.int .i64 0) := by rw [hc1 _ _ (by first | (simp; done) | (simp; omega))]; go_simp
  have d1_1_7 : w1.frozen? ⟨w.heap.size + 1, 7, none⟩ = false := by rw [hf1 _ _ (by first | (simp; done) | (simp; omega))]; go_simp
  have c1_1_8 : w1.cell? ⟨w.heap.size + 1, 8, none⟩ = some (.slice none 0 0) := by rw [hc1 _ _ (by first | (simp; done) | (simp; omega))]; go_simp
  have d1_1_8 : w1.frozen? ⟨w.heap.size + 1, 8, none⟩ = false := by rw [hf1 _ _ (by first | (simp; done) | (simp; omega))]; go_simp
  have c1_2_0 : w1.cell? ⟨w.heap.size + 1 + 1, 0, none⟩ = some (.int .i64 0) := by rw [hc1 _ _ (by first | (simp; done) | (simp; omega))]; go_simp
  have d1_2_0 : w1.frozen? ⟨w.heap.size + 1 + 1, 0, none⟩ = false := by rw [hf1 _ _ (by first | (simp; done) | (simp; omega))]; go_simp
  have c1_2_1 : w1.cell? ⟨w.heap.size + 1 + 1, 1, none⟩ = some (.int .i64 0) := by rw [hc1 _ _ (by first | (simp; done) | (simp; omega))]; go_simp
  have d1_2_1 : w1.frozen? ⟨w.heap.size + 1 + 1, 1, none⟩ = false := by rw [hf1 _ _ (by first | (simp; done) | (simp; omega))]; go_simp
  have c1_2_2 : w1.cell? ⟨w.heap.size + 1 + 1, 2, none⟩ = some (.int .i64 0) := by rw [hc1 _ _ (by first | (simp; done) | (simp; omega))]; go_simp
  have d1_2_2 : w1.frozen? ⟨w.heap.size + 1 + 1, 2, none⟩ = false := by rw [hf1 _ _ (by first | (simp; done) | (simp; omega))]; go_simp
  have c1_2_3 : w1.cell? ⟨w.heap.size + 1 + 1, 3, none⟩ = some (.int .i64 0) := by rw [hc1 _ _ (by first | (simp; done) | (simp; omega))]; go_simp
  have d1_2_3 : w1.frozen? ⟨w.heap.size + 1 + 1, 3, none⟩ = false := by rw [hf1 _ _ (by first | (simp; done) | (simp; omega))]; go_simp
  have c1_2_4 : w1.cell? ⟨w.heap.size + 1 + 1, 4, none⟩ = some (.int .i64 0) := by rw [hc1 _ _ (by first | (simp; done) | (simp; omega))]; go_simp
  have d1_2_4 : w1.frozen? ⟨w.heap.size + 1 + 1, 4, none⟩ = false := by rw [hf1 _ _ (by first | (simp; done) | (simp; omega))]; go_simp
  have c1_2_5 : w1.cell? ⟨w.heap.size + 1 + 1, 5, none⟩ = some (.int .i64 0) := by rw [hc1 _ _ (by first | (simp; done) | (simp; omega))]; go_simp
  have d1_2_5 : w1.frozen? ⟨w.heap.size + 1 + 1, 5, none⟩ = false := by rw [hf1 _ _ (by first | (simp; done) | (simp; omega))]; go_simp
  have c1_2_6 : w1.cell? ⟨w.heap.size + 1 + 1, 6, none⟩ = some (.int .i64 0) := by rw [hc1 _ _ (by first | (simp; done) | (simp; omega))]; go_simp
  have d1_2_6 : w1.frozen? ⟨w.heap.size + 1 + 1, 6, none⟩ = false := by rw [hf1 _ _ (by first | (simp; done) | (simp; omega))]; go_simp
  have c1_2_7 : w1.cell? ⟨w.heap.size + 1 + 1, 7, none⟩ = some (.int .i64 0) := by rw [hc1 _ _ (by first | (simp; done) | (simp; omega))]; go_simp
  have d1_2_7 : w1.frozen? ⟨w.heap.size + 1 + 1, 7, none⟩ = false := by rw [hf1 _ _ (by first | (simp; done) | (simp; omega))]; go_simp
  have c1_2_8 : w1.cell? ⟨w.heap.size + 1 + 1, 8, none⟩ = some (.slice none 0 0) := by rw [hc1 _ _ (by first | (simp; done) | (simp; omega))]; go_simp
  have d1_2_8 : w1.frozen? ⟨w.heap.size + 1 + 1, 8, none⟩ = false := by rw [hf1 _ _ (by first | (simp; done) | (simp; omega))]; go_simp
  have HB1 := hide (show Below w.heap.size w w1 from (by repeat (first | with_reducible exact Below.refl _ _ | with_reducible assumption | with_reducible refine Below.drew ?_ | with_reducible refine below_drewN ?_ _ | with_reducible refine Below.setCell ?_ (by first | exact Nat.le_refl _ | (simp; done) | (simp; omega) | (dsimp only; omega)) _ | with_reducible refine Below.alloc ?_ (by first | exact Nat.le_refl _ | (simp; done) | (simp; omega) | (simp at *; omega)) _ | with_reducible refine bstep ?_ (by assumption))))
  clear hc1 hf1 hb1
  go_wp2_with fail; (with_reducible refine (KL.out _ _ _ _ _).mono ?_); rintro e w2 ⟨rfl, hb2⟩; obtain ⟨hc2, hf2⟩ := bcell hb2
  have hz2 := hb2.size
  (try simp only [size_al] at hz2)
  have zz2_0 : w.heap.size < w2.heap.size := (by first | omega | (simp at hz2; omega))
  have zz2_1 : w.heap.size + 1 < w2.heap.size := (by first | omega | (simp at hz2; omega))
  have zz2_2 : w.heap.size + 1 + 1 < w2.heap.size := (by first | omega | (simp at hz2; omega))
  have c2_0_8 : w2.cell? ⟨w.heap.size, 8, none⟩ = some (.slice so n cap) := by rw [hc2 _ _ (by first | (simp; done) | (simp; omega))]; go_simp
  have c2_1_0 : w2.cell? ⟨w.heap.size + 1, 0, none⟩ = some (.int .i64 0) := by rw [hc2 _ _ (by first | (simp; done) | (simp; omega))]; go_simp
  have d2_1_0 : w2.frozen? ⟨w.heap.size + 1, 0, none⟩ = false := by rw [hf2 _ _ (by first | (simp; done) | (simp; omega))]; go_simp
  have c2_1_1 : w2.cell? ⟨w.heap.size + 1, 1, none⟩ = some (.int .i64 0) := by rw [hc2 _ _ (by first | (simp; done) | (simp; omega))]; go_simp
  have d2_1_1 : w2.frozen? ⟨w.heap.size + 1, 1, none⟩ = false := by rw [hf2 _ _ (by first | (simp; done) | (simp; omega))]; go_simp
  have c2_1_2 : w2.cell? ⟨w.heap.size + 1, 2, none⟩ = some (.int .i64 0) := by rw [hc2 _ _ (by first | (simp; done) | (simp; omega))]; go_simp
  have d2_1_2 : w2.frozen? ⟨w.heap.size + 1, 2, none⟩ = false := by rw [hf2 _ _ (by first | (simp; done) | (simp; omega))]; go_simp
  have c2_1_3 : w2.cell? ⟨w.heap.size + 1, 3, none⟩ = some (.int .i64 0) := by rw [hc2 _ _ (by first | (simp; done) | (simp; omega))]; go_simp
  have d2_1_3 : w2.frozen? ⟨w.heap.size + 1, 3, none⟩ = false := by rw [hf2 _ _ (by first | (simp; done) | (simp; omega))]; go_simp
  have c2_1_4 : w2.cell? ⟨w.heap.size + 1, 4, none⟩ = some (.int .i64 0) := by rw [hc2 _ _ (by first | (simp; done) | (simp; omega))]; go_simp
  have d2_1_4 : w2.frozen? ⟨w.heap.size + 1, 4, none⟩ = false := by rw [hf2 _ _ (by first | (simp; done) | (simp; omega))]; go_simp
  have c2_1_5 : w2.cell? ⟨w.heap.size + 1, 5, none⟩ = some (.int .i64 0) := by rw [hc2 _ _ (by first | (simp; done) | (simp; omega))]; go_simp
  have d2_1_5 : w2.frozen? ⟨w.heap.size + 1, 5, none⟩ = false := by rw [hf2 _ _ (by first | (simp; done) | (simp; omega))]; go_simp
  have c2_1_6 : w2.cell? ⟨w.heap.size + 1, 6, none⟩ = some (.int .i64 0) := by rw [hc2 _ _ (by first | (simp; done) | (simp; omega))]; go_simp
  have d2_1_6 : w2.frozen? ⟨w.heap.size + 1, 6, none⟩ = false := by rw [hf2 _ _ (by first | (simp; done) | (simp; omega))]; go_simp
  have c2_1_7 : w2.cell? ⟨w.heap.size + 1, 7, none⟩ = some (.int .i64 0) := by rw [hc2 _ _ (by first | (simp; done) | (simp; omega))]; go_simp
  have d2_1_7 : w2.frozen? ⟨w.heap.size + 1, 7, none⟩ = false := by rw [hf2 _ _ (by first | (simp; done) | (simp; omega))]; go_simp
  have c2_1_8 : w2.cell? ⟨w.heap.size + 1, 8, none⟩ = some (.slice none 0 0) := by rw [hc2 _ _ (by first | (simp; done) | (simp; omega))]; go_simp
  have d2_1_8 : w2.frozen? ⟨w.heap.size + 1, 8, none⟩ = false := by rw [hf2 _ _ (by first | (simp; done) | (simp; omega))]; go_simp
  have c2_2_0 : w2.cell? ⟨w.heap.size + 1 + 1, 0, none⟩ = some (.int .i64 ax) := by rw [hc2 _ _ (by first | (simp; done) | (simp; omega))]; go_simp
  have d2_2_0 : w2.frozen? ⟨w.heap.size + 1 + 1, 0, none⟩ = false := by rw [hf2 _ _ (by first | (simp; done) | (simp; omega))]; go_simp
  have c2_2_1 : w2.cell? ⟨w.heap.size + 1 + 1, 1, none⟩ = some (.int .i64 ay) := by rw [hc2 _ _ (by first | (simp; done) | (simp; omega))]; go_simp
  have d2_2_1 : w2.frozen? ⟨w.heap.size + 1 + 1, 1, none⟩ = false := by rw [hf2 _ _ (by first | (simp; done) | (simp; omega))]; go_simp
  have c2_2_2 : w2.cell? ⟨w.heap.size + 1 + 1, 2, none⟩ = some (.int .i64 bx) := by rw [hc2 _ _ (by first | (simp; done) | (simp; omega))]; go_simp
  have d2_2_2 : w2.frozen? ⟨w.heap.size + 1 + 1, 2, none⟩ = false := by rw [hf2 _ _ (by first | (simp; done) | (simp; omega))]; go_simp
  have c2_2_3 : w2.cell? ⟨w.heap.size + 1 + 1, 3, none⟩ = some (.int .i64 bY) := by rw [hc2 _ _ (by first | (simp; done) | (simp; omega))]; go_simp
  have d2_2_3 : w2.frozen? ⟨w.heap.size + 1 + 1, 3, none⟩ = false := by rw [hf2 _ _ (by first | (simp; done) | (simp; omega))]; go_simp
  have c2_2_4 : w2.cell? ⟨w.heap.size + 1 + 1, 4, none⟩ = some (.int .i64 0) := by rw [hc2 _ _ (by first | (simp; done) | (simp; omega))]; go_simp
  have d2_2_4 : w2.frozen? ⟨w.heap.size + 1 + 1, 4, none⟩ = false := by rw [hf2 _ _ (by first | (simp; done) | (simp; omega))]; go_simp
  have c2_2_5 : w2.cell? ⟨w.heap.size + 1 + 1, 5, none⟩ = some (.int .i64 0) := by rw [hc2 _ _ (by first | (simp; done) | (simp; omega))]; go_simp
  have d2_2_5 : w2.frozen? ⟨w.heap.size + 1 + 1, 5, none⟩ = false := by rw [hf2 _ _ (by first | (simp; done) | (simp; omega))]; go_simp
  have c2_2_6 : w2.cell? ⟨w.heap.size + 1 + 1, 6, none⟩ = some (.int .i64 0) := by rw [hc2 _ _ (by first | (simp; done) | (simp; omega))]; go_simp
  have d2_2_6 : w2.frozen? ⟨w.heap.size + 1 + 1, 6, none⟩ = false := by rw [hf2 _ _ (by first | (simp; done) | (simp; omega))]; go_simp
  have c2_2_7 : w2.cell? ⟨w.heap.size + 1 + 1, 7, none⟩ = some (.int .i64 0) := by rw [hc2 _ _ (by first | (simp; done) | (simp; omega))]; go_simp
  have d2_2_7 : w2.frozen? ⟨w.heap.size + 1 + 1, 7, none⟩ = false := by rw [hf2 _ _ (by first | (simp; done) | (simp; omega))]; go_simp
  have c2_2_8 : w2.cell? ⟨w.heap.size + 1 + 1, 8, none⟩ = some (.slice none 0 0) := by rw [hc2 _ _ (by first | (simp; done) | (simp; omega))]; go_simp
  have d2_2_8 : w2.frozen? ⟨w.heap.size + 1 + 1, 8, none⟩ = false := by rw [hf2 _ _ (by first | (simp; done) | (simp; omega))]; go_simp
  have HB2 := hide (show Below w.heap.size w w2 from (Below.setCell (Below.setCell (Below.setCell (Below.setCell HB1.out (by dsimp only; omega) _) (by dsimp only; omega) _) (by dsimp only; omega) _) (by dsimp only; omega) _).trans (hb2.mono (by simp; omega)))
  clear hc2 hf2 hb2 c1_0_4 c1_0_5 c1_0_6 c1_0_7 c1_0_8 c1_1_0 d1_1_0 c1_1_1 d1_1_1 c1_1_2 d1_1_2 c1_1_3 d1_1_3 c1_1_4 d1_1_4 c1_1_5 d1_1_5 c1_1_6 d1_1_6 c1_1_7 d1_1_7 c1_1_8 d1_1_8 c1_2_0 d1_2_0 c1_2_1 d1_2_1 c1_2_2 d1_2_2 c1_2_3 d1_2_3 c1_2_4 d1_2_4 c1_2_5 d1_2_5 c1_2_6 d1_2_6 c1_2_7 d1_2_7 c1_2_8 d1_2_8
  go_wp2_with fail; (with_reducible refine (laws_toMarkS so n cap N X Y S Z _ (RowAt.later (Below.setCell (Below.setCell (Below.setCell (Below.setCell HB2.out (by dsimp only; omega) _) (by dsimp only; omega) _) (by dsimp only; omega) _) (by dsimp only; omega) _) h) hn).mono ?_); rintro e w3 ⟨g, rfl, hrow, hmine, hge, hgl, hb3⟩; obtain ⟨hc3, hf3⟩ := bcell hb3; (simp at hge)
  have hz3 := hb3.size
  (try simp only [size_al] at hz3)
  have zz3_0 : w.heap.size < w3.heap.size := (by first | omega | (simp at hz3; omega))
  have zz3_1 : w.heap.size + 1 < w3.heap.size := (by first | omega | (simp at hz3; omega))
  have zz3_2 : w.heap.size + 1 + 1 < w3.heap.size := (by first | omega | (simp at hz3; omega))
  have c3_1_0 : w3.cell? ⟨w.heap.size + 1, 0, none⟩ = some (.int .i64 0) := by rw [hc3 _ _ (by first | (simp; done) | (simp; omega))]; go_simp
  have d3_1_0 : w3.frozen? ⟨w.heap.size + 1, 0, none⟩ = false := by rw [hf3 _ _ (by first | (simp; done) | (simp; omega))]; go_simp
  have c3_1_1 : w3.cell? ⟨w.heap.size + 1, 1, none⟩ = some (.int .i64 0) := by rw [hc3 _ _ (by first | (simp; done) | (simp; omega))]; go_simp
  have d3_1_1 : w3.frozen? ⟨w.heap.size + 1, 1, none⟩ = false := by rw [hf3 _ _ (by first | (simp; done) | (simp; omega))]; go_simp
  have c3_1_2 : w3.cell? ⟨w.heap.size + 1, 2, none⟩ = some (.int .i64 0) := by rw [hc3 _ _ (by first | (simp; done) | (simp; omega))]; go_simp
  have d3_1_2 : w3.frozen? ⟨w.heap.size + 1, 2, none⟩ = false := by rw [hf3 _ _ (by first | (simp; done) | (simp; omega))]; go_simp
  have c3_1_3 : w3.cell? ⟨w.heap.size + 1, 3, none⟩ = some (.int .i64 0) := by rw [hc3 _ _ (by first | (simp; done) | (simp; omega))]; go_simp
  have d3_1_3 : w3.frozen? ⟨w.heap.size + 1, 3, none⟩ = false := by rw [hf3 _ _ (by first | (simp; done) | (simp; omega))]; go_simp
  have c3_1_4 : w3.cell? ⟨w.heap.size + 1, 4, none⟩ = some (.int .i64 0) := by rw [hc3 _ _ (by first | (simp; done) | (simp; omega))]; go_simp
  have d3_1_4 : w3.frozen? ⟨w.heap.size + 1, 4, none⟩ = false := by rw [hf3 _ _ (by first | (simp; done) | (simp; omega))]; go_simp
  have c3_1_5 : w3.cell? ⟨w.heap.size + 1, 5, none⟩ = some (.int .i64 0) := by rw [hc3 _ _ (by first | (simp; done) | (simp; omega))]; go_simp
  have d3_1_5 : w3.frozen? ⟨w.heap.size + 1, 5, none⟩ = false := by rw [hf3 _ _ (by first | (simp; done) | (simp; omega))]; go_simp
  have c3_1_6 : w3.cell? ⟨w.heap.size + 1, 6, none⟩ = some (.int .i64 0) := by rw [hc3 _ _ (by first | (simp; done) | (simp; omega))]; go_simp
  have d3_1_6 : w3.frozen? ⟨w.heap.size + 1, 6, none⟩ = false := by rw [hf3 _ _ (by first | (simp; done) | (simp; omega))]; go_simp
  have c3_1_7 : w3.cell? ⟨w.heap.size + 1, 7, none⟩ = some (.int .i64 0) := by rw [hc3 _ _ (by first | (simp; done) | (simp; omega))]; go_simp
  have d3_1_7 : w3.frozen? ⟨w.heap.size + 1, 7, none⟩ = false := by rw [hf3 _ _ (by first | (simp; done) | (simp; omega))]; go_simp
  have c3_1_8 : w3.cell? ⟨w.heap.size + 1, 8, none⟩ = some (.slice none 0 0) := by rw [hc3 _ _ (by first | (simp; done) | (simp; omega))]; go_simp
  have d3_1_8 : w3.frozen? ⟨w.heap.size + 1, 8, none⟩ = false := by rw [hf3 _ _ (by first | (simp; done) | (simp; omega))]; go_simp
  have c3_2_0 : w3.cell? ⟨w.heap.size + 1 + 1, 0, none⟩ = some (.int .i64 ax) := by rw [hc3 _ _ (by first | (simp; done) | (simp; omega))]; go_simp
  have d3_2_0 : w3.frozen? ⟨w.heap.size + 1 + 1, 0, none⟩ = false := by rw [hf3 _ _ (by first | (simp; done) | (simp; omega))]; go_simp
  have c3_2_1 : w3.cell? ⟨w.heap.size + 1 + 1, 1, none⟩ = some (.int .i64 ay) := by rw [hc3 _ _ (by first | (simp; done) | (simp; omega))]; go_simp
  have d3_2_1 : w3.frozen? ⟨w.heap.size + 1 + 1, 1, none⟩ = false := by rw [hf3 _ _ (by first | (simp; done) | (simp; omega))]; go_simp
  have c3_2_2 : w3.cell? ⟨w.heap.size + 1 + 1, 2, none⟩ = some (.int .i64 bx) := by rw [hc3 _ _ (by first | (simp; done) | (simp; omega))]; go_simp
  have d3_2_2 : w3.frozen? ⟨w.heap.size + 1 + 1, 2, none⟩ = false := by rw [hf3 _ _ (by first | (simp; done) | (simp; omega))]; go_simp
  have c3_2_3 : w3.cell? ⟨w.heap.size + 1 + 1, 3, none⟩ = some (.int .i64 bY) := by rw [hc3 _ _ (by first | (simp; done) | (simp; omega))]; go_simp
  have d3_2_3 : w3.frozen? ⟨w.heap.size + 1 + 1, 3, none⟩ = false := by rw [hf3 _ _ (by first | (simp; done) | (simp; omega))]; go_simp
  have c3_2_4 : w3.cell? ⟨w.heap.size + 1 + 1, 4, none⟩ = some (.int .i64 cx) := by rw [hc3 _ _ (by first | (simp; done) | (simp; omega))]; go_simp
  have d3_2_4 : w3.frozen? ⟨w.heap.size + 1 + 1, 4, none⟩ = false := by rw [hf3 _ _ (by first | (simp; done) | (simp; omega))]; go_simp
  have c3_2_5 : w3.cell? ⟨w.heap.size + 1 + 1, 5, none⟩ = some (.int .i64 cy) := by rw [hc3 _ _ (by first | (simp; done) | (simp; omega))]; go_simp
  have d3_2_5 : w3.frozen? ⟨w.heap.size + 1 + 1, 5, none⟩ = false := by rw [hf3 _ _ (by first | (simp; done) | (simp; omega))]; go_simp
  have c3_2_6 : w3.cell? ⟨w.heap.size + 1 + 1, 6, none⟩ = some (.int .i64 dx) := by rw [hc3 _ _ (by first | (simp; done) | (simp; omega))]; go_simp
  have d3_2_6 : w3.frozen? ⟨w.heap.size + 1 + 1, 6, none⟩ = false := by rw [hf3 _ _ (by first | (simp; done) | (simp; omega))]; go_simp
  have c3_2_7 : w3.cell? ⟨w.heap.size + 1 + 1, 7, none⟩ = some (.int .i64 dy) := by rw [hc3 _ _ (by first | (simp; done) | (simp; omega))]; go_simp
  have d3_2_7 : w3.frozen? ⟨w.heap.size + 1 + 1, 7, none⟩ = false := by rw [hf3 _ _ (by first | (simp; done) | (simp; omega))]; go_simp
  have c3_2_8 : w3.cell? ⟨w.heap.size + 1 + 1, 8, none⟩ = some (.slice none 0 0) := by rw [hc3 _ _ (by first | (simp; done) | (simp; omega))]; go_simp
  have d3_2_8 : w3.frozen? ⟨w.heap.size + 1 + 1, 8, none⟩ = false := by rw [hf3 _ _ (by first | (simp; done) | (simp; omega))]; go_simp
  have HB3 := hide (show Below w.heap.size w w3 from (Below.setCell (Below.setCell (Below.setCell (Below.setCell HB2.out (by dsimp only; omega) _) (by dsimp only; omega) _) (by dsimp only; omega) _) (by dsimp only; omega) _).trans (hb3.mono (by simp; omega)))
  have Hrow := hide hrow
  have Hmine := hide hmine
  have hg0 : w.heap.size + 1 + 1 < g := by omega
  clear hc3 hf3 hb3 hrow hmine c2_0_8 c2_1_0 d2_1_0 c2_1_1 d2_1_1 c2_1_2 d2_1_2 c2_1_3 d2_1_3 c2_1_4 d2_1_4 c2_1_5 d2_1_5 c2_1_6 d2_1_6 c2_1_7 d2_1_7 c2_1_8 d2_1_8 c2_2_0 d2_2_0 c2_2_1 d2_2_1 c2_2_2 d2_2_2 c2_2_3 d2_2_3 c2_2_4 d2_2_4 c2_2_5 d2_2_5 c2_2_6 d2_2_6 c2_2_7 d2_2_7 c2_2_8 d2_2_8
  go_wp2
  simp [bodyPost, results, Tryd.results13, go_sem, *]
  refine ⟨g, rfl, ?_, ?_, by omega, by simpa using hgl, ?_⟩
  · (repeat with_reducible refine row_set ?_ (by dsimp only; omega)); exact Hrow.out
  · (repeat with_reducible refine Mine.set ?_); exact Hmine.out
  · (repeat with_reducible refine Below.setCell ?_ (by dsimp only; omega) _); exact HB3.out
end Go.Proofs.YtlllfklehbjneaaDoor
