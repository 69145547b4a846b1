/- Walks: ManoeuvresOf, of both. -/
import Derived.Test.YtnmnibpcklcmgaaMa
import Derived.Test.YtnmnibpcklcmgaaMs
import Derived.Test.YtnmnibpcklcmgaaTd
namespace Go.Proofs.Ytnmnibpcklcmgaa
open Go.RowKit

/-- The manoeuvres that are answered, and the code. -/
def mnL (wx wy : Int) (n : Nat) (T X Y : Nat → Int) : List (Int × Int) := if isWd wx wy && isTr n T X Y then mans wx wy X Y (n - 2) else []
def mnC (wx wy : Int) (n : Nat) (T X Y : Nat → Int) : Int := sel (isWd wx wy) (sel (isTr n T X Y) 0 1) 1
theorem mnL_len (wx wy : Int) (n : Nat) (T X Y : Nat → Int) : (mnL wx wy n T X Y).length ≤ n := by
  unfold mnL
  split
  · have := mans_le wx wy X Y (n - 2); omega
  · simp
theorem OwnL.row {w : World} {B : Nat} {L : List (Int × Int)} {so : Option Addr} (h : OwnL w B L so) : RowAt w so L.length 2 (v2 (LX L) (LY L)) := h.1
theorem OwnL.nil (w : World) (B : Nat) : OwnL w B [] none := ⟨fun i hi => absurd hi (Nat.not_lt_zero i), .inl ⟨rfl, rfl⟩⟩
theorem OwnL.made {w : World} {B g : Nat} (h1 : B ≤ g) (h2 : g < w.heap.size) : OwnL w B [] (some ⟨g, 0, none⟩) := ⟨fun i hi => absurd hi (Nat.not_lt_zero i), .inr ⟨g, rfl, h1, h2, fun j hj => absurd hj (Nat.not_lt_zero j)⟩⟩
theorem OwnL.grown {w W : World} {B g : Nat} {L : List (Int × Int)} {so : Option Addr} (h : OwnL w B L so) (hg : w.grownBy W (some g)) (hl : g < B) : OwnL W B L so := by
  obtain ⟨h1, ⟨rfl, h2⟩ | ⟨g', rfl, h3, h4, h5⟩⟩ := h
  · exact ⟨fun i hi => absurd hi (by omega), .inl ⟨rfl, h2⟩⟩
  · have hb : ∀ j, W.cell? ⟨g', j, none⟩ = w.cell? ⟨g', j, none⟩ := fun j => World.cell?_of_block (hg.block g' h4 (by simp; omega))
    have hf : ∀ j, W.frozen? ⟨g', j, none⟩ = w.frozen? ⟨g', j, none⟩ := fun j => World.frozen?_of_block (hg.block g' h4 (by simp; omega))
    refine ⟨own_row fun i hi j hj => (hb _).trans (row_own h1 hi hj), .inr ⟨g', rfl, h3, Nat.lt_of_lt_of_le h4 hg.size, fun j hj => ?_⟩⟩
    obtain ⟨⟨v, e⟩, f⟩ := h5 j hj
    exact ⟨⟨v, (hb j).trans e⟩, (hf j).trans f⟩
theorem OwnL.mark {w : World} {B : Nat} {L : List (Int × Int)} {so : Option Addr} (h : OwnL w B L so) : ∃ g, (L.length = 0 ∨ so = some ⟨g, 0, none⟩) ∧ B ≤ g ∧ Mine w g (L.length * 2) := by
  obtain ⟨_, ⟨rfl, h2⟩ | ⟨g', rfl, h3, h4, h5⟩⟩ := h
  · exact ⟨B, .inl h2, Nat.le_refl _, fun j hj => absurd hj (by omega)⟩
  · exact ⟨g', .inr rfl, h3, h5⟩
/-- What ManoeuvresOf returns. -/
def RetL (w : World) (L : List (Int × Int)) (c : Int) (e : Ending) (w' : World) : Prop :=
  ∃ so cp, e = .returned (.tuple #[.slice so L.length cp, .int .i64 c]) ∧ OwnL w' w.heap.size L so ∧ Below w.heap.size w w'
set_option maxHeartbeats 2000000 in
theorem impl_ManoeuvresOf (wx wy : Int) (so : Option Addr) (n cap : Nat) (T X Y : Nat → Int) (w : World) (h : RowAt w so n 3 (v3 T X Y)) (hn : n ≤ 1048576) :
    Calls Try.prog 9 #[.agg #[.int .i64 wx, .int .i64 wy], .agg #[.slice so n cap]] w (RetL w (mnL wx wy n T X Y) (mnC wx wy n T X Y)) := by
  rcases b3 (isWd wx wy) (isTr n T X Y) with g1 | ⟨g1, g2⟩ | ⟨g1, g2⟩
  · have Ho := hide (show mnL wx wy n T X Y = [] by simp [mnL, g1])
    have Hd := hide (show mnC wx wy n T X Y = 1 by simp [mnC, sel, g1])
    rw [Ho.out, Hd.out]
    go_enter Try.func9, Try.ntmps9
    go_wp2_with (first | (go_at_call 29; (with_reducible refine (impl_IsWind _ _ _).mono ?_); rintro e w9 ⟨rfl, hb⟩; obtain ⟨hc, hf⟩ := bcell hb; have hz := hb.size; have z0 : w.heap.size < w9.heap.size := (by first | omega | (simp at hz; omega)); have z1 : w.heap.size + 1 < w9.heap.size := (by first | omega | (simp at hz; omega))) | (go_at_call 30; (with_reducible refine (impl_IsTrack _ _ _ T X Y _ (RowAt.later (by repeat (first | with_reducible exact Below.refl _ _ | with_reducible assumption | with_reducible refine Below.drew ?_ | with_reducible refine below_drewN ?_ _ | with_reducible refine Below.setCell ?_ (by first | exact Nat.le_refl _ | (simp; done) | (simp; omega) | (dsimp only; omega)) _ | with_reducible refine Below.alloc ?_ (by first | exact Nat.le_refl _ | (simp; done) | (simp; omega) | (simp at *; omega)) _ | with_reducible refine bstep ?_ (by assumption))) h) hn).mono ?_); rintro e w9 ⟨rfl, hb⟩; obtain ⟨hc, hf⟩ := bcell hb; have hz := hb.size; have z0 : w.heap.size < w9.heap.size := (by first | omega | (simp at hz; omega)); have z1 : w.heap.size + 1 < w9.heap.size := (by first | omega | (simp at hz; omega))))
    go_ret2
    exact ⟨none, 0, rfl, OwnL.nil _ _, (by repeat (first | with_reducible exact Below.refl _ _ | with_reducible assumption | with_reducible refine Below.drew ?_ | with_reducible refine below_drewN ?_ _ | with_reducible refine Below.setCell ?_ (by first | exact Nat.le_refl _ | (simp; done) | (simp; omega) | (dsimp only; omega)) _ | with_reducible refine Below.alloc ?_ (by first | exact Nat.le_refl _ | (simp; done) | (simp; omega) | (simp at *; omega)) _ | with_reducible refine bstep ?_ (by assumption)))⟩
  · have Ho := hide (show mnL wx wy n T X Y = [] by simp [mnL, g1, g2])
    have Hd := hide (show mnC wx wy n T X Y = 1 by simp [mnC, sel, g1, g2])
    rw [Ho.out, Hd.out]
    go_enter Try.func9, Try.ntmps9
    go_wp2_with (first | (go_at_call 29; (with_reducible refine (impl_IsWind _ _ _).mono ?_); rintro e w9 ⟨rfl, hb⟩; obtain ⟨hc, hf⟩ := bcell hb; have hz := hb.size; have z0 : w.heap.size < w9.heap.size := (by first | omega | (simp at hz; omega)); have z1 : w.heap.size + 1 < w9.heap.size := (by first | omega | (simp at hz; omega))) | (go_at_call 30; (with_reducible refine (impl_IsTrack _ _ _ T X Y _ (RowAt.later (by repeat (first | with_reducible exact Below.refl _ _ | with_reducible assumption | with_reducible refine Below.drew ?_ | with_reducible refine below_drewN ?_ _ | with_reducible refine Below.setCell ?_ (by first | exact Nat.le_refl _ | (simp; done) | (simp; omega) | (dsimp only; omega)) _ | with_reducible refine Below.alloc ?_ (by first | exact Nat.le_refl _ | (simp; done) | (simp; omega) | (simp at *; omega)) _ | with_reducible refine bstep ?_ (by assumption))) h) hn).mono ?_); rintro e w9 ⟨rfl, hb⟩; obtain ⟨hc, hf⟩ := bcell hb; have hz := hb.size; have z0 : w.heap.size < w9.heap.size := (by first | omega | (simp at hz; omega)); have z1 : w.heap.size + 1 < w9.heap.size := (by first | omega | (simp at hz; omega))))
    go_ret2
    exact ⟨none, 0, rfl, OwnL.nil _ _, (by repeat (first | with_reducible exact Below.refl _ _ | with_reducible assumption | with_reducible refine Below.drew ?_ | with_reducible refine below_drewN ?_ _ | with_reducible refine Below.setCell ?_ (by first | exact Nat.le_refl _ | (simp; done) | (simp; omega) | (dsimp only; omega)) _ | with_reducible refine Below.alloc ?_ (by first | exact Nat.le_refl _ | (simp; done) | (simp; omega) | (simp at *; omega)) _ | with_reducible refine bstep ?_ (by assumption)))⟩
  · have Ho := hide (show mnL wx wy n T X Y = mans wx wy X Y (n - 2) by simp [mnL, g1, g2])
    have Hd := hide (show mnC wx wy n T X Y = 0 by simp [mnC, sel, g1, g2])
    rw [Ho.out, Hd.out]
    obtain ⟨b, o, rfl⟩ := row_some h g2
    go_enter Try.func9, Try.ntmps9
    go_wp2_with (first | (go_at_call 29; (with_reducible refine (impl_IsWind _ _ _).mono ?_); rintro e w9 ⟨rfl, hb⟩; obtain ⟨hc, hf⟩ := bcell hb; have hz := hb.size; have z0 : w.heap.size < w9.heap.size := (by first | omega | (simp at hz; omega)); have z1 : w.heap.size + 1 < w9.heap.size := (by first | omega | (simp at hz; omega))) | (go_at_call 30; (with_reducible refine (impl_IsTrack _ _ _ T X Y _ (RowAt.later (by repeat (first | with_reducible exact Below.refl _ _ | with_reducible assumption | with_reducible refine Below.drew ?_ | with_reducible refine below_drewN ?_ _ | with_reducible refine Below.setCell ?_ (by first | exact Nat.le_refl _ | (simp; done) | (simp; omega) | (dsimp only; omega)) _ | with_reducible refine Below.alloc ?_ (by first | exact Nat.le_refl _ | (simp; done) | (simp; omega) | (simp at *; omega)) _ | with_reducible refine bstep ?_ (by assumption))) h) hn).mono ?_); rintro e w9 ⟨rfl, hb⟩; obtain ⟨hc, hf⟩ := bcell hb; have hz := hb.size; have z0 : w.heap.size < w9.heap.size := (by first | omega | (simp at hz; omega)); have z1 : w.heap.size + 1 < w9.heap.size := (by first | omega | (simp at hz; omega))) | (go_at_call 31; (with_reducible refine (impl_manoeuvresOf _ _ _ _ _ _ T X Y _ (RowAt.later (by repeat (first | with_reducible exact Below.refl _ _ | with_reducible assumption | with_reducible refine Below.drew ?_ | with_reducible refine below_drewN ?_ _ | with_reducible refine Below.setCell ?_ (by first | exact Nat.le_refl _ | (simp; done) | (simp; omega) | (dsimp only; omega)) _ | with_reducible refine Below.alloc ?_ (by first | exact Nat.le_refl _ | (simp; done) | (simp; omega) | (simp at *; omega)) _ | with_reducible refine bstep ?_ (by assumption))) h) g1 g2).mono ?_); rintro e w9 ⟨s9, c9, rfl, hown, hb⟩; have Hown := hide (OwnL.mono (B' := w.heap.size) hown (by first | omega | (simp; omega))); clear hown))
    go_ret2
    exact ⟨s9, c9, rfl, Hown.out, (by repeat (first | with_reducible exact Below.refl _ _ | with_reducible assumption | with_reducible refine Below.drew ?_ | with_reducible refine below_drewN ?_ _ | with_reducible refine Below.setCell ?_ (by first | exact Nat.le_refl _ | (simp; done) | (simp; omega) | (dsimp only; omega)) _ | with_reducible refine Below.alloc ?_ (by first | exact Nat.le_refl _ | (simp; done) | (simp; omega) | (simp at *; omega)) _ | with_reducible refine bstep ?_ (by assumption)))⟩
set_option maxHeartbeats 2000000 in
theorem spec_ManoeuvresOf (wx wy : Int) (so : Option Addr) (n cap : Nat) (T X Y : Nat → Int) (w : World) (h : RowAt w so n 3 (v3 T X Y)) (hn : n ≤ 1048576) :
    Calls Try.prog 10 #[.agg #[.int .i64 wx, .int .i64 wy], .agg #[.slice so n cap]] w (RetL w (mnL wx wy n T X Y) (mnC wx wy n T X Y)) := by
  rcases b3 (isWd wx wy) (isTr n T X Y) with g1 | ⟨g1, g2⟩ | ⟨g1, g2⟩
  · have Ho := hide (show mnL wx wy n T X Y = [] by simp [mnL, g1])
    have Hd := hide (show mnC wx wy n T X Y = 1 by simp [mnC, sel, g1])
    rw [Ho.out, Hd.out]
    go_enter Try.func10, Try.ntmps10
    go_wp2_with (first | (go_at_call 32; (with_reducible refine (spec_IsWind _ _ _).mono ?_); rintro e w9 ⟨rfl, hb⟩; obtain ⟨hc, hf⟩ := bcell hb; have hz := hb.size; have z0 : w.heap.size < w9.heap.size := (by first | omega | (simp at hz; omega)); have z1 : w.heap.size + 1 < w9.heap.size := (by first | omega | (simp at hz; omega))) | (go_at_call 33; (with_reducible refine (spec_IsTrack _ _ _ T X Y _ (RowAt.later (by repeat (first | with_reducible exact Below.refl _ _ | with_reducible assumption | with_reducible refine Below.drew ?_ | with_reducible refine below_drewN ?_ _ | with_reducible refine Below.setCell ?_ (by first | exact Nat.le_refl _ | (simp; done) | (simp; omega) | (dsimp only; omega)) _ | with_reducible refine Below.alloc ?_ (by first | exact Nat.le_refl _ | (simp; done) | (simp; omega) | (simp at *; omega)) _ | with_reducible refine bstep ?_ (by assumption))) h) hn).mono ?_); rintro e w9 ⟨rfl, hb⟩; obtain ⟨hc, hf⟩ := bcell hb; have hz := hb.size; have z0 : w.heap.size < w9.heap.size := (by first | omega | (simp at hz; omega)); have z1 : w.heap.size + 1 < w9.heap.size := (by first | omega | (simp at hz; omega))))
    go_ret2
    exact ⟨_, _, rfl, OwnL.made (by omega) (by simp), (by repeat (first | with_reducible exact Below.refl _ _ | with_reducible assumption | with_reducible refine Below.drew ?_ | with_reducible refine below_drewN ?_ _ | with_reducible refine Below.setCell ?_ (by first | exact Nat.le_refl _ | (simp; done) | (simp; omega) | (dsimp only; omega)) _ | with_reducible refine Below.alloc ?_ (by first | exact Nat.le_refl _ | (simp; done) | (simp; omega) | (simp at *; omega)) _ | with_reducible refine bstep ?_ (by assumption)))⟩
  · have Ho := hide (show mnL wx wy n T X Y = [] by simp [mnL, g1, g2])
    have Hd := hide (show mnC wx wy n T X Y = 1 by simp [mnC, sel, g1, g2])
    rw [Ho.out, Hd.out]
    go_enter Try.func10, Try.ntmps10
    go_wp2_with (first | (go_at_call 32; (with_reducible refine (spec_IsWind _ _ _).mono ?_); rintro e w9 ⟨rfl, hb⟩; obtain ⟨hc, hf⟩ := bcell hb; have hz := hb.size; have z0 : w.heap.size < w9.heap.size := (by first | omega | (simp at hz; omega)); have z1 : w.heap.size + 1 < w9.heap.size := (by first | omega | (simp at hz; omega))) | (go_at_call 33; (with_reducible refine (spec_IsTrack _ _ _ T X Y _ (RowAt.later (by repeat (first | with_reducible exact Below.refl _ _ | with_reducible assumption | with_reducible refine Below.drew ?_ | with_reducible refine below_drewN ?_ _ | with_reducible refine Below.setCell ?_ (by first | exact Nat.le_refl _ | (simp; done) | (simp; omega) | (dsimp only; omega)) _ | with_reducible refine Below.alloc ?_ (by first | exact Nat.le_refl _ | (simp; done) | (simp; omega) | (simp at *; omega)) _ | with_reducible refine bstep ?_ (by assumption))) h) hn).mono ?_); rintro e w9 ⟨rfl, hb⟩; obtain ⟨hc, hf⟩ := bcell hb; have hz := hb.size; have z0 : w.heap.size < w9.heap.size := (by first | omega | (simp at hz; omega)); have z1 : w.heap.size + 1 < w9.heap.size := (by first | omega | (simp at hz; omega))))
    go_ret2
    exact ⟨_, _, rfl, OwnL.made (by omega) (by simp), (by repeat (first | with_reducible exact Below.refl _ _ | with_reducible assumption | with_reducible refine Below.drew ?_ | with_reducible refine below_drewN ?_ _ | with_reducible refine Below.setCell ?_ (by first | exact Nat.le_refl _ | (simp; done) | (simp; omega) | (dsimp only; omega)) _ | with_reducible refine Below.alloc ?_ (by first | exact Nat.le_refl _ | (simp; done) | (simp; omega) | (simp at *; omega)) _ | with_reducible refine bstep ?_ (by assumption)))⟩
  · have Ho := hide (show mnL wx wy n T X Y = mans wx wy X Y (n - 2) by simp [mnL, g1, g2])
    have Hd := hide (show mnC wx wy n T X Y = 0 by simp [mnC, sel, g1, g2])
    rw [Ho.out, Hd.out]
    obtain ⟨b, o, rfl⟩ := row_some h g2
    go_enter Try.func10, Try.ntmps10
    go_wp2_with (first | (go_at_call 32; (with_reducible refine (spec_IsWind _ _ _).mono ?_); rintro e w9 ⟨rfl, hb⟩; obtain ⟨hc, hf⟩ := bcell hb; have hz := hb.size; have z0 : w.heap.size < w9.heap.size := (by first | omega | (simp at hz; omega)); have z1 : w.heap.size + 1 < w9.heap.size := (by first | omega | (simp at hz; omega))) | (go_at_call 33; (with_reducible refine (spec_IsTrack _ _ _ T X Y _ (RowAt.later (by repeat (first | with_reducible exact Below.refl _ _ | with_reducible assumption | with_reducible refine Below.drew ?_ | with_reducible refine below_drewN ?_ _ | with_reducible refine Below.setCell ?_ (by first | exact Nat.le_refl _ | (simp; done) | (simp; omega) | (dsimp only; omega)) _ | with_reducible refine Below.alloc ?_ (by first | exact Nat.le_refl _ | (simp; done) | (simp; omega) | (simp at *; omega)) _ | with_reducible refine bstep ?_ (by assumption))) h) hn).mono ?_); rintro e w9 ⟨rfl, hb⟩; obtain ⟨hc, hf⟩ := bcell hb; have hz := hb.size; have z0 : w.heap.size < w9.heap.size := (by first | omega | (simp at hz; omega)); have z1 : w.heap.size + 1 < w9.heap.size := (by first | omega | (simp at hz; omega))) | (go_at_call 34; (with_reducible refine (spec_l08Manoeuvres _ _ _ _ _ _ T X Y _ (RowAt.later (by repeat (first | with_reducible exact Below.refl _ _ | with_reducible assumption | with_reducible refine Below.drew ?_ | with_reducible refine below_drewN ?_ _ | with_reducible refine Below.setCell ?_ (by first | exact Nat.le_refl _ | (simp; done) | (simp; omega) | (dsimp only; omega)) _ | with_reducible refine Below.alloc ?_ (by first | exact Nat.le_refl _ | (simp; done) | (simp; omega) | (simp at *; omega)) _ | with_reducible refine bstep ?_ (by assumption))) h) g1 g2).mono ?_); rintro e w9 ⟨s9, c9, rfl, hown, hb⟩; have Hown := hide (OwnL.mono (B' := w.heap.size) hown (by first | omega | (simp; omega))); clear hown))
    go_ret2
    exact ⟨s9, c9, rfl, Hown.out, (by repeat (first | with_reducible exact Below.refl _ _ | with_reducible assumption | with_reducible refine Below.drew ?_ | with_reducible refine below_drewN ?_ _ | with_reducible refine Below.setCell ?_ (by first | exact Nat.le_refl _ | (simp; done) | (simp; omega) | (dsimp only; omega)) _ | with_reducible refine Below.alloc ?_ (by first | exact Nat.le_refl _ | (simp; done) | (simp; omega) | (simp at *; omega)) _ | with_reducible refine bstep ?_ (by assumption)))⟩
end Go.Proofs.Ytnmnibpcklcmgaa
