/- Walks: what laws over a course, a mark and a track begin with. -/
import Derived.Test.YtgcdgdnmcdffoaaDoorYg
namespace Go.Proofs.YtgcdgdnmcdffoaaDoor
open Go.RowKit

/-- What DrawVisitsOf returns. -/
def PDrawVisitsOf (w : World) (e : Ending) (w' : World) : Prop := (∃ (ax ay bx bY cx cy dx dy : Int) (cs : Option Addr) (m mcap : Nat) (N : Nat → ByteArray) (X Y S Z : Nat → Int) (k : Int) (so2 : Option Addr) (n2 cap2 : Nat) (T U V : Nat → Int), e = .returned (.tuple #[.agg #[.int .i64 ax, .int .i64 ay, .int .i64 bx, .int .i64 bY, .int .i64 cx, .int .i64 cy, .int .i64 dx, .int .i64 dy, .slice cs m mcap], .int .i64 k, .agg #[.slice so2 n2 cap2]]) ∧ m ≤ 9 ∧ m ≤ mcap ∧ n2 ≤ 41 ∧ RowAt w' cs m 5 (v5 N X Y S Z) ∧ RowAt w' so2 n2 3 (v3 T U V)) ∧ Below w.heap.size w w'
set_option maxRecDepth 100000 in
set_option maxHeartbeats 8000000 in
theorem spec_DrawVisitsOf (so : Option Addr) (n cap : Nat) (B : Nat → Int) (w : World) (h : RowAt w so n 1 (vb B)) (hB : ∀ i, 0 ≤ B i ∧ B i ≤ 255) (hn : n ≤ 1048576) :
 Calls Tryd.prog 6 #[.slice so n cap] w (PDrawVisitsOf w) := by
 go_enter Tryd.func6, Tryd.ntmps6
 go_wp2_with fail; (with_reducible refine (spec_l01From so n cap B _ (RowAt.later bwz h) hB hn).mono ?_); rintro e w1 ⟨rfl, hs1, hb1⟩
 simp only [size_al] at hs1
 have hz1 := hb1.size
 simp only [size_al] at hz1
 have hb0 := Below.alloc (Below.refl w.heap.size w) (Nat.le_refl _) (.cells #[.int .i64 0, .int .i64 0, .int .i64 0, .int .i64 0, .int .i64 0, .int .i64 0, .int .i64 0, .int .i64 0, .slice none 0 0] 30)
 have HR0 := hide (Mine.later hb1 (Mine.later (Below.alloc (Below.refl _ _) (Nat.le_refl _) _) (mine_make (w := w) (c := #[.int .i64 0, .int .i64 0, .int .i64 0, .int .i64 0, .int .i64 0, .int .i64 0, .int .i64 0, .int .i64 0, .slice none 0 0]) (t := 30) (m := 9) rfl)))
 have HR1 := hide (Mine.later hb1 (mine_make (w := (w.alloc (.cells #[.int .i64 0, .int .i64 0, .int .i64 0, .int .i64 0, .int .i64 0, .int .i64 0, .int .i64 0, .int .i64 0, .slice none 0 0] 30))) (c := #[.slice none 0 0]) (t := 33) (m := 1) rfl))
 simp only [size_al] at HR1
 have HB1 := hide (show Below w.heap.size w w1 from bwz)
 clear hb0 hb1
 obtain ⟨g, hg⟩ : ∃ g, g = w.heap.size + 1 + 1 := ⟨_, rfl⟩
 simp only [size_al]
 rw [← hg] at hs1 ⊢
 have gl : w.heap.size ≤ g := by omega
 have g0 : ¬ w.heap.size = g := by omega
 have zw0 : w.heap.size < w1.heap.size := by omega
 have g1 : ¬ w.heap.size + 1 = g := by omega
 have zw1 : w.heap.size + 1 < w1.heap.size := by omega
 have lg0 := Src.lt hs1
 clear hg
 go_wp2_with fail; (with_reducible refine (spec_l07Draw g _ hs1).mono ?_); rintro e w2 ⟨⟨ax, ay, bx, bY, cx, cy, dx, dy, cs, m, mcap, N, X, Y, S, Z, k, so2, n2, cap2, Lt, rfl, q1, q2, ho, q3, q4, q5, ht⟩, hg2, hs2⟩; have hc2 := gcell hg2; have hf2 := gfroz hg2; have lg2 := Src.lt hs2; have nga2 : ¬ w2.heap.size = g := (by omega); have ngb2 : ¬ g = w2.heap.size := (by omega); have hzs2 := hg2.size; (try simp at hzs2); have zx2_0 : w.heap.size < w2.heap.size := (by first | omega | (simp at hzs2; omega)); have zy2_0 : w.heap.size < w2.heap.size + 1 := (by omega); have zw2_0 : ¬ w2.heap.size = w.heap.size := (by omega); have zv2_0 : ¬ w.heap.size = w2.heap.size := (by omega); have zu2_0 : w.heap.size < w2.heap.size + 1 + 1 := (by omega); have zt2_0 : ¬ w2.heap.size + 1 = w.heap.size := (by omega); have zr2_0 : ¬ w.heap.size = w2.heap.size + 1 := (by omega); have zx2_1 : w.heap.size + 1 < w2.heap.size := (by first | omega | (simp at hzs2; omega)); have zy2_1 : w.heap.size + 1 < w2.heap.size + 1 := (by omega); have zw2_1 : ¬ w2.heap.size = w.heap.size + 1 := (by omega); have zv2_1 : ¬ w.heap.size + 1 = w2.heap.size := (by omega); have zu2_1 : w.heap.size + 1 < w2.heap.size + 1 + 1 := (by omega); have zt2_1 : ¬ w2.heap.size + 1 = w.heap.size + 1 := (by omega); have zr2_1 : ¬ w.heap.size + 1 = w2.heap.size + 1 := (by omega)
 have HO := hide ho
 have HT := hide ht
 have HB2 := hide (below_gr HB1.out hg2 (by omega) gl)
 have hr0 := mine_grow HR0.out hg2 zw0 g0
 have hr1 := mine_grow HR1.out hg2 zw1 g1
 obtain ⟨v0, cy0, fy0⟩ := hr0.cells 0 (by decide)
 obtain ⟨v1, cy1, fy1⟩ := hr0.cells 1 (by decide)
 obtain ⟨v2, cy2, fy2⟩ := hr0.cells 2 (by decide)
 obtain ⟨v3, cy3, fy3⟩ := hr0.cells 3 (by decide)
 obtain ⟨v4, cy4, fy4⟩ := hr0.cells 4 (by decide)
 obtain ⟨v5, cy5, fy5⟩ := hr0.cells 5 (by decide)
 obtain ⟨v6, cy6, fy6⟩ := hr0.cells 6 (by decide)
 obtain ⟨v7, cy7, fy7⟩ := hr0.cells 7 (by decide)
 obtain ⟨v8, cy8, fy8⟩ := hr0.cells 8 (by decide)
 obtain ⟨vt1, cyt1, fyt1⟩ := hr1.cells 0 (by decide)
 have hzz2 := hg2.size
 have HB := HB2.out
 clear ho ht hc2 hf2 hg2 hs2 hr0 hr1
 go_wp2
 simp [bodyPost, results, Tryd.results6, go_sem, *]
 exact ⟨⟨_, _, _, _, _, _, _, _, cs, m, mcap, N, X, Y, S, Z, k, so2, n2, cap2, _, _, _, rfl, q1, q2, q4, (show OwnM _ w1.heap.size N X Y S Z m cs from by (repeat with_reducible refine OwnM.far ?_ (by omega)); exact HO.out).row, (show OwnI 3 2000000000 _ w1.heap.size Lt n2 so2 from by (repeat with_reducible refine OwnI.far ?_ (by omega)); exact HT.out).row3⟩, bwz⟩
end Go.Proofs.YtgcdgdnmcdffoaaDoor
