/- Walks: what laws over a course, a track and a time begin with. -/
import Derived.Test.YtgcdgdnmcdffoaaGreatDoorYi
import Derived.Test.YtgcdgdnmcdffoaaGreatDoorDe
namespace Go.Proofs.YtgcdgdnmcdffoaaGreatDoor
open Go.RowKit

/-- What DrawReachedAt returns. -/
def PDrawReachedAt (w : World) (e : Ending) (w' : World) : Prop := (∃ (ax ay bx bY cx cy dx dy : Int) (cs : Option Addr) (m mcap : Nat) (N : Nat → ByteArray) (X Y S Z : Nat → Int) (tm : Int) (so2 : Option Addr) (n2 cap2 : Nat) (T U V : Nat → Int), e = .returned (.tuple #[.agg #[.int .i64 ax, .int .i64 ay, .int .i64 bx, .int .i64 bY, .int .i64 cx, .int .i64 cy, .int .i64 dx, .int .i64 dy, .slice cs m mcap], .agg #[.slice so2 n2 cap2], .int .i64 tm]) ∧ m ≤ 9 ∧ m ≤ mcap ∧ n2 ≤ 41 ∧ RowAt w' cs m 5 (v5 N X Y S Z) ∧ RowAt w' so2 n2 3 (v3 T U V)) ∧ Below w.heap.size w w'
set_option maxRecDepth 100000 in
set_option maxHeartbeats 8000000 in
theorem spec_DrawReachedAt (so : Option Addr) (n cap : Nat) (B : Nat → Int) (w : World) (h : RowAt w so n 1 (vb B)) (hB : ∀ i, 0 ≤ B i ∧ B i ≤ 255) (hn : n ≤ 1048576) :
 Calls Tryz.prog 27 #[.slice so n cap] w (PDrawReachedAt w) := by
 go_enter Tryz.func27, Tryz.ntmps27
 go_wp2_with fail; (with_reducible refine (spec_l01From so n cap B _ (RowAt.later bwz h) hB hn).mono ?_); rintro e w1 ⟨rfl, hs1, hb1⟩
 simp only [size_al] at hs1
 have hz1 := hb1.size
 simp only [size_al] at hz1
 have hb0 := Below.alloc (Below.refl w.heap.size w) (Nat.le_refl _) (.cells #[.int .i64 0, .int .i64 0, .int .i64 0, .int .i64 0, .int .i64 0, .int .i64 0, .int .i64 0, .int .i64 0, .slice none 0 0] 30)
 have HR0 := hide (Mine.later hb1 (Mine.later (Below.alloc (Below.refl _ _) (Nat.le_refl _) _) (mine_make (w := w) (c := #[.int .i64 0, .int .i64 0, .int .i64 0, .int .i64 0, .int .i64 0, .int .i64 0, .int .i64 0, .int .i64 0, .slice none 0 0]) (t := 30) (m := 9) rfl)))
 have HR1 := hide (Mine.later hb1 (mine_make (w := (w.alloc (.cells #[.int .i64 0, .int .i64 0, .int .i64 0, .int .i64 0, .int .i64 0, .int .i64 0, .int .i64 0, .int .i64 0, .slice none 0 0] 30))) (c := #[.slice none 0 0]) (t := 33) (m := 1) rfl))
 simp only [size_al] at HR1
 have HB1 := hide (show Below w.heap.size w w1 from bwz)
 clear hb0 hb1
 obtain ⟨g, hg⟩ : ∃ g, g = w.heap.size + 1 + 1 := ⟨_, rfl⟩
 simp only [size_al]
 rw [← hg] at hs1 ⊢
 have gl : w.heap.size ≤ g := by omega
 have g0 : ¬ w.heap.size = g := by omega
 have zw0 : w.heap.size < w1.heap.size := by omega
 have g1 : ¬ w.heap.size + 1 = g := by omega
 have zw1 : w.heap.size + 1 < w1.heap.size := by omega
 have lg0 := Src.lt hs1
 clear hg
 go_wp2_with fail; (with_reducible refine (spec_l06Draw g _ hs1).mono ?_); rintro e w2 ⟨⟨ax, ay, bx, bY, cx, cy, dx, dy, cs, m, mcap, N, X, Y, S, Z, so2, n2, cap2, Lt, rfl, q1, q2, ho, q3, q4, q5, ht⟩, hg2, hs2⟩; have hc2 := gcell hg2; have hf2 := gfroz hg2; have lg2 := Src.lt hs2; have nga2 : ¬ w2.heap.size = g := (by omega); have ngb2 : ¬ g = w2.heap.size := (by omega); have hzs2 := hg2.size; (try simp at hzs2); have zx2_0 : w.heap.size < w2.heap.size := (by first | omega | (simp at hzs2; omega)); have zy2_0 : w.heap.size < w2.heap.size + 1 := (by omega); have zw2_0 : ¬ w2.heap.size = w.heap.size := (by omega); have zv2_0 : ¬ w.heap.size = w2.heap.size := (by omega); have zu2_0 : w.heap.size < w2.heap.size + 1 + 1 := (by omega); have zt2_0 : ¬ w2.heap.size + 1 = w.heap.size := (by omega); have zr2_0 : ¬ w.heap.size = w2.heap.size + 1 := (by omega); have zx2_1 : w.heap.size + 1 < w2.heap.size := (by first | omega | (simp at hzs2; omega)); have zy2_1 : w.heap.size + 1 < w2.heap.size + 1 := (by omega); have zw2_1 : ¬ w2.heap.size = w.heap.size + 1 := (by omega); have zv2_1 : ¬ w.heap.size + 1 = w2.heap.size := (by omega); have zu2_1 : w.heap.size + 1 < w2.heap.size + 1 + 1 := (by omega); have zt2_1 : ¬ w2.heap.size + 1 = w.heap.size + 1 := (by omega); have zr2_1 : ¬ w.heap.size + 1 = w2.heap.size + 1 := (by omega)
 have HO := hide ho
 have HT := hide ht
 have HB2 := hide (below_gr HB1.out hg2 (by omega) gl)
 have hr0 := mine_grow HR0.out hg2 zw0 g0
 have hr1 := mine_grow HR1.out hg2 zw1 g1
 obtain ⟨v0, cy0, fy0⟩ := hr0.cells 0 (by decide)
 obtain ⟨v1, cy1, fy1⟩ := hr0.cells 1 (by decide)
 obtain ⟨v2, cy2, fy2⟩ := hr0.cells 2 (by decide)
 obtain ⟨v3, cy3, fy3⟩ := hr0.cells 3 (by decide)
 obtain ⟨v4, cy4, fy4⟩ := hr0.cells 4 (by decide)
 obtain ⟨v5, cy5, fy5⟩ := hr0.cells 5 (by decide)
 obtain ⟨v6, cy6, fy6⟩ := hr0.cells 6 (by decide)
 obtain ⟨v7, cy7, fy7⟩ := hr0.cells 7 (by decide)
 obtain ⟨v8, cy8, fy8⟩ := hr0.cells 8 (by decide)
 obtain ⟨vt1, cyt1, fyt1⟩ := hr1.cells 0 (by decide)
 clear ho ht hc2 hf2 hg2 hr0 hr1
 go_upto_region 3 with fail
 obtain ⟨wB, hB9⟩ : ∃ W, W = (w2.alloc (.cells #[.int .i64 ax, .int .i64 ay, .int .i64 bx, .int .i64 bY, .int .i64 cx, .int .i64 cy, .int .i64 dx, .int .i64 dy, .slice cs m mcap] 30)).alloc (.cells #[.slice so2 n2 cap2] 33) := ⟨_, rfl⟩
 have szB : wB.heap.size = w2.heap.size + 1 + 1 := by rw [hB9]; simp
 have sB : Src wB g := by rw [hB9]; exact swz
 have HBB := hide (show Below w.heap.size w wB by rw [hB9]; exact Below.alloc (Below.alloc HB2.out (by omega) _) (by simp; omega) _)
 have HoB := hide (show OwnM wB w1.heap.size N X Y S Z m cs by rw [hB9]; exact (HO.out.later (Below.alloc (Below.refl _ _) (Nat.le_refl _) _)).later (Below.alloc (Below.refl _ _) (Nat.le_refl _) _))
 have HtB := hide (show OwnI 3 2000000000 wB w1.heap.size Lt n2 so2 by rw [hB9]; exact (HT.out.later (Below.alloc (Below.refl _ _) (Nat.le_refl _) _)).later (Below.alloc (Below.refl _ _) (Nat.le_refl _) _))
 have tc0 : wB.cell? ⟨w2.heap.size, 0, none⟩ = some (.int .i64 ax) := by rw [hB9]; go_simp
 have tc1 : wB.cell? ⟨w2.heap.size, 1, none⟩ = some (.int .i64 ay) := by rw [hB9]; go_simp
 have tc2 : wB.cell? ⟨w2.heap.size, 2, none⟩ = some (.int .i64 bx) := by rw [hB9]; go_simp
 have tc3 : wB.cell? ⟨w2.heap.size, 3, none⟩ = some (.int .i64 bY) := by rw [hB9]; go_simp
 have tc4 : wB.cell? ⟨w2.heap.size, 4, none⟩ = some (.int .i64 cx) := by rw [hB9]; go_simp
 have tc5 : wB.cell? ⟨w2.heap.size, 5, none⟩ = some (.int .i64 cy) := by rw [hB9]; go_simp
 have tc6 : wB.cell? ⟨w2.heap.size, 6, none⟩ = some (.int .i64 dx) := by rw [hB9]; go_simp
 have tc7 : wB.cell? ⟨w2.heap.size, 7, none⟩ = some (.int .i64 dy) := by rw [hB9]; go_simp
 have tc8 : wB.cell? ⟨w2.heap.size, 8, none⟩ = some (.slice cs m mcap) := by rw [hB9]; go_simp
 have tt0 : wB.cell? ⟨w2.heap.size + 1, 0, none⟩ = some (.slice so2 n2 cap2) := by rw [hB9]; go_simp
 have rc0 : wB.cell? ⟨w.heap.size, 0, none⟩ = some v0 := by rw [hB9]; go_simp
 have rz0 : wB.frozen? ⟨w.heap.size, 0, none⟩ = false := by rw [hB9]; go_simp
 have rc1 : wB.cell? ⟨w.heap.size, 1, none⟩ = some v1 := by rw [hB9]; go_simp
 have rz1 : wB.frozen? ⟨w.heap.size, 1, none⟩ = false := by rw [hB9]; go_simp
 have rc2 : wB.cell? ⟨w.heap.size, 2, none⟩ = some v2 := by rw [hB9]; go_simp
 have rz2 : wB.frozen? ⟨w.heap.size, 2, none⟩ = false := by rw [hB9]; go_simp
 have rc3 : wB.cell? ⟨w.heap.size, 3, none⟩ = some v3 := by rw [hB9]; go_simp
 have rz3 : wB.frozen? ⟨w.heap.size, 3, none⟩ = false := by rw [hB9]; go_simp
 have rc4 : wB.cell? ⟨w.heap.size, 4, none⟩ = some v4 := by rw [hB9]; go_simp
 have rz4 : wB.frozen? ⟨w.heap.size, 4, none⟩ = false := by rw [hB9]; go_simp
 have rc5 : wB.cell? ⟨w.heap.size, 5, none⟩ = some v5 := by rw [hB9]; go_simp
 have rz5 : wB.frozen? ⟨w.heap.size, 5, none⟩ = false := by rw [hB9]; go_simp
 have rc6 : wB.cell? ⟨w.heap.size, 6, none⟩ = some v6 := by rw [hB9]; go_simp
 have rz6 : wB.frozen? ⟨w.heap.size, 6, none⟩ = false := by rw [hB9]; go_simp
 have rc7 : wB.cell? ⟨w.heap.size, 7, none⟩ = some v7 := by rw [hB9]; go_simp
 have rz7 : wB.frozen? ⟨w.heap.size, 7, none⟩ = false := by rw [hB9]; go_simp
 have rc8 : wB.cell? ⟨w.heap.size, 8, none⟩ = some v8 := by rw [hB9]; go_simp
 have rz8 : wB.frozen? ⟨w.heap.size, 8, none⟩ = false := by rw [hB9]; go_simp
 have rt0 : wB.cell? ⟨w.heap.size + 1, 0, none⟩ = some vt1 := by rw [hB9]; go_simp
 have ru0 : wB.frozen? ⟨w.heap.size + 1, 0, none⟩ = false := by rw [hB9]; go_simp
 rw [← hB9]
 clear hB9 hs2 hs1 cy0 fy0 cy1 fy1 cy2 fy2 cy3 fy3 cy4 fy4 cy5 fy5 cy6 fy6 cy7 fy7 cy8 fy8 cyt1 fyt1
 have zb0 : w.heap.size < wB.heap.size := by omega
 have zb1 : w.heap.size + 1 < wB.heap.size := by omega
 have zb2 : w2.heap.size < wB.heap.size := by omega
 have zb3 : w2.heap.size + 1 < wB.heap.size := by omega
 have ngx : ¬ w2.heap.size + 1 = g := by omega
 have hgB := World.grownBy.refl wB (some g)
 have HwE : World.grownBy wB wB (some g) := gwz
 have HcE0 : World.cell? wB ⟨w2.heap.size, 0, none⟩ = some (.int .i64 ax) := (by go_simp)
 have HcE1 : World.cell? wB ⟨w2.heap.size, 1, none⟩ = some (.int .i64 ay) := (by go_simp)
 have HcE2 : World.cell? wB ⟨w2.heap.size, 2, none⟩ = some (.int .i64 bx) := (by go_simp)
 have HcE3 : World.cell? wB ⟨w2.heap.size, 3, none⟩ = some (.int .i64 bY) := (by go_simp)
 have HcE4 : World.cell? wB ⟨w2.heap.size, 4, none⟩ = some (.int .i64 cx) := (by go_simp)
 have HcE5 : World.cell? wB ⟨w2.heap.size, 5, none⟩ = some (.int .i64 cy) := (by go_simp)
 have HcE6 : World.cell? wB ⟨w2.heap.size, 6, none⟩ = some (.int .i64 dx) := (by go_simp)
 have HcE7 : World.cell? wB ⟨w2.heap.size, 7, none⟩ = some (.int .i64 dy) := (by go_simp)
 have HcE8 : World.cell? wB ⟨w2.heap.size, 8, none⟩ = some (.slice cs m mcap) := (by go_simp)
 have HcE9 : World.cell? wB ⟨w2.heap.size + 1, 0, none⟩ = some (.slice so2 n2 cap2) := (by go_simp)
 refine wp_region_held_drew (S := fun W => W.cell? ⟨w2.heap.size, 0, none⟩ = some (.int .i64 ax) ∧ W.cell? ⟨w2.heap.size, 1, none⟩ = some (.int .i64 ay) ∧ W.cell? ⟨w2.heap.size, 2, none⟩ = some (.int .i64 bx) ∧ W.cell? ⟨w2.heap.size, 3, none⟩ = some (.int .i64 bY) ∧ W.cell? ⟨w2.heap.size, 4, none⟩ = some (.int .i64 cx) ∧ W.cell? ⟨w2.heap.size, 5, none⟩ = some (.int .i64 cy) ∧ W.cell? ⟨w2.heap.size, 6, none⟩ = some (.int .i64 dx) ∧ W.cell? ⟨w2.heap.size, 7, none⟩ = some (.int .i64 dy) ∧ W.cell? ⟨w2.heap.size, 8, none⟩ = some (.slice cs m mcap) ∧ W.cell? ⟨w2.heap.size + 1, 0, none⟩ = some (.slice so2 n2 cap2) ∧ True) (by kernel_rfl) ⟨HcE0, HcE1, HcE2, HcE3, HcE4, HcE5, HcE6, HcE7, HcE8, HcE9, trivial⟩ (fun hHeld => ?_)
 refine tkD 0 (some 15) rfl ?_; simp only [pz]
 refine tkD 1 (some 16) rfl ?_; simp only [pz]
 refine tkD 2 (some 17) rfl ?_; simp only [pz]
 refine tkD 3 (some 18) rfl ?_; simp only [pz]
 refine wpAnyH_inv3 (fuel := 3) [4] [] [19] (fun u L W => (World.grownBy wB W (some g) ∧ Src W g) ∧ (L 4 → FInt (u 19)) ∧ True) (by decide) (by kernel_rfl) (by kernel_rfl) (fun _ _ _ _ _ h => h) (fun u L W hJ => ⟨cell_grown hJ.1.1 (by omega) HcE0, cell_grown hJ.1.1 (by omega) HcE1, cell_grown hJ.1.1 (by omega) HcE2, cell_grown hJ.1.1 (by omega) HcE3, cell_grown hJ.1.1 (by omega) HcE4, cell_grown hJ.1.1 (by omega) HcE5, cell_grown hJ.1.1 (by omega) HcE6, cell_grown hJ.1.1 (by omega) HcE7, cell_grown hJ.1.1 (by omega) HcE8, cell_grown hJ.1.1 (by omega) HcE9, trivial⟩) (fun u L hL => ⟨⟨gr_drew (World.grownBy.refl _ _), by assumption⟩, fun k => absurd k (hL 4 (by decide)), trivial⟩) ?_ ?_ ?_
 ·refine sc1 19 ?_ ?_
  rotate_left
  exact StepsH.nil
  ·intro u L W hn hd hJ
   obtain ⟨hk, f19, _⟩ := hJ
   have hnd := hk.2
   intro K hK
   simp only [puts, pz]
   go_simp; (go_at_call 39; (with_reducible refine (spec_l03DrawTime g _ _ _ _ _ _ hnd (HtB.out.grown hk.1 (by omega)) q4 (by omega)).mono ?_); rintro e w9 ⟨⟨xx, rfl⟩, hg, hs⟩)
   all_goals (try go_wp2_with fail)
   all_goals
    apply Shut.go3 (W := W) (g := g) hK
    ·simp only [puts, pz]; rfl
    ·exact gbz
    ·exact sbz
    ·intro hg hs; exact ⟨Dr.step hk hg hs, fun _ => by rw [upd_same]; exact ⟨_, rfl⟩, trivial⟩
 ·exact PuresH.nil
 ·intro u L W hJ hL
  obtain ⟨hk, f19, _⟩ := hJ
  obtain ⟨x19, e19⟩ := f19 (hL 4 (by kernel_rfl))
  clear hHeld; have hcW := gcell hk.1; have hfW := gfroz hk.1; have hHeld := trivial; have lW := hk.1.size
  clear f19
  simp only [puts, pz, Array.replicate, e19]
  refine rd1 5 none rfl (fun K hK => ?_)
  go_simp
  all_goals (try go_wp2_with fail)
  refine hK.out _ _ ?_ (fun hH2 => ?_)
  ·exact ⟨(by go_simp; done), (by go_simp; done), (by go_simp; done), (by go_simp; done), (by go_simp; done), (by go_simp; done), (by go_simp; done), (by go_simp; done), (by go_simp; done), (by go_simp; done), trivial⟩
  clear hK K hHeld; (have hHeld := hH2.2.2.2.2.2.2.2.2.2.2); clear hH2; (try simp only [Act.put])
  refine rd1 6 none rfl (fun K hK => ?_)
  go_simp
  all_goals (try go_wp2_with fail)
  refine hK.out _ _ ?_ (fun hH2 => ?_)
  ·exact ⟨(by go_simp; done), (by go_simp; done), (by go_simp; done), (by go_simp; done), (by go_simp; done), (by go_simp; done), (by go_simp; done), (by go_simp; done), (by go_simp; done), (by go_simp; done), trivial⟩
  clear hK K hHeld; (have hHeld := hH2.2.2.2.2.2.2.2.2.2.2); clear hH2; (try simp only [Act.put])
  refine rd1 7 (some 4) rfl (fun K hK => ?_)
  go_simp
  all_goals (try go_wp2_with fail)
  refine hK.out _ _ ?_ (fun hH2 => ?_)
  ·exact ⟨(by go_simp; done), (by go_simp; done), (by go_simp; done), (by go_simp; done), (by go_simp; done), (by go_simp; done), (by go_simp; done), (by go_simp; done), (by go_simp; done), (by go_simp; done), trivial⟩
  clear hK K hHeld; (have hHeld := hH2.2.2.2.2.2.2.2.2.2.2); clear hH2; (try simp only [Act.put])
  refine wpAnyH_done (by kernel_rfl) ?_ _; (try simp only [pz])
  have HoE := hide (HoB.out.grown hk.1 (by omega))
  have HtE := hide (HtB.out.grown hk.1 (by omega))
  have zE := hk.1.size
  have HBE := below_gr HBB.out hk.1 (by omega) gl
  go_wp2
  simp [bodyPost, results, Tryz.results27, go_sem, *]
  exact ⟨⟨_, _, _, _, _, _, _, _, cs, m, mcap, N, X, Y, S, Z, _, so2, n2, cap2, _, _, _, rfl, q1, q2, q4, (show OwnM _ w1.heap.size N X Y S Z m cs from by (repeat with_reducible refine OwnM.far ?_ (by omega)); exact HoE.out).row, (show OwnI 3 2000000000 _ w1.heap.size Lt n2 so2 from by (repeat with_reducible refine OwnI.far ?_ (by omega)); exact HtE.out).row3⟩, bwz⟩
end Go.Proofs.YtgcdgdnmcdffoaaGreatDoor
