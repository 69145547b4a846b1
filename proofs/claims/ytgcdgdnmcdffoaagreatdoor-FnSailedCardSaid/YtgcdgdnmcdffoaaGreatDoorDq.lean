/- Walks: points, winds and headings are drawn, second part. -/
import Derived.Test.YtgcdgdnmcdffoaaGreatDoorDn
import Derived.Test.YtgcdgdnmcdffoaaGreatDoorMp
import Derived.Test.YtgcdgdnmcdffoaaGreatDoorBs
import Derived.Laws.AppendOwnNone
namespace Go.Proofs.YtgcdgdnmcdffoaaGreatDoor
open Go.RowKit

set_option maxRecDepth 100000 in
set_option maxHeartbeats 4000000 in
theorem spec_l08Draw (g : Nat) (w : World) (h : Src w g) : Calls Tryz.prog 102 #[.pointer (some ⟨g, 0, none⟩)] w (PtC w g) := by
 have ng := Src.lt h
 have nz0 : ¬ w.heap.size = g := by omega
 have nz1 : ¬ g = w.heap.size := by omega
 go_enter Tryz.func102, Tryz.ntmps102
 go_wp2_with fail; (with_reducible refine (spec_l01Next g _ _ swz (by decide)).mono ?_); rintro e w1 ⟨⟨x1, rfl, hx1⟩, hg1, hs1⟩; have hc1 := gcell hg1; have hf1 := gfroz hg1; have lg1 := Src.lt hs1; have nga1 : ¬ w1.heap.size = g := (by omega); have ngb1 : ¬ g = w1.heap.size := (by omega); have hzs1 := hg1.size; (try simp at hzs1); have zx1_0 : w.heap.size < w1.heap.size := (by first | omega | (simp at hzs1; omega)); have zy1_0 : w.heap.size < w1.heap.size + 1 := (by omega); have zw1_0 : ¬ w1.heap.size = w.heap.size := (by omega); have zv1_0 : ¬ w.heap.size = w1.heap.size := (by omega); have zu1_0 : w.heap.size < w1.heap.size + 1 + 1 := (by omega); have zt1_0 : ¬ w1.heap.size + 1 = w.heap.size := (by omega); have zr1_0 : ¬ w.heap.size = w1.heap.size + 1 := (by omega)
 go_wp2_with fail; (with_reducible refine (spec_l01Next g _ _ swz (by decide)).mono ?_); rintro e w2 ⟨⟨x2, rfl, hx2⟩, hg2, hs2⟩; have hc2 := gcell hg2; have hf2 := gfroz hg2; have lg2 := Src.lt hs2; have nga2 : ¬ w2.heap.size = g := (by omega); have ngb2 : ¬ g = w2.heap.size := (by omega); have hzs2 := hg2.size; (try simp at hzs2); have zx2_0 : w.heap.size < w2.heap.size := (by first | omega | (simp at hzs2; omega)); have zy2_0 : w.heap.size < w2.heap.size + 1 := (by omega); have zw2_0 : ¬ w2.heap.size = w.heap.size := (by omega); have zv2_0 : ¬ w.heap.size = w2.heap.size := (by omega); have zu2_0 : w.heap.size < w2.heap.size + 1 + 1 := (by omega); have zt2_0 : ¬ w2.heap.size + 1 = w.heap.size := (by omega); have zr2_0 : ¬ w.heap.size = w2.heap.size + 1 := (by omega)
 go_wp2_with fail; (with_reducible refine (spec_l01Next g _ _ swz (by decide)).mono ?_); rintro e w3 ⟨⟨x3, rfl, hx3⟩, hg3, hs3⟩; have hc3 := gcell hg3; have hf3 := gfroz hg3; have lg3 := Src.lt hs3; have nga3 : ¬ w3.heap.size = g := (by omega); have ngb3 : ¬ g = w3.heap.size := (by omega); have hzs3 := hg3.size; (try simp at hzs3); have zx3_0 : w.heap.size < w3.heap.size := (by first | omega | (simp at hzs3; omega)); have zy3_0 : w.heap.size < w3.heap.size + 1 := (by omega); have zw3_0 : ¬ w3.heap.size = w.heap.size := (by omega); have zv3_0 : ¬ w.heap.size = w3.heap.size := (by omega); have zu3_0 : w.heap.size < w3.heap.size + 1 + 1 := (by omega); have zt3_0 : ¬ w3.heap.size + 1 = w.heap.size := (by omega); have zr3_0 : ¬ w.heap.size = w3.heap.size + 1 := (by omega); have zx3_1 : w2.heap.size < w3.heap.size := (by first | omega | (simp at hzs3; omega)); have zy3_1 : w2.heap.size < w3.heap.size + 1 := (by omega); have zw3_1 : ¬ w3.heap.size = w2.heap.size := (by omega); have zv3_1 : ¬ w2.heap.size = w3.heap.size := (by omega); have zu3_1 : w2.heap.size < w3.heap.size + 1 + 1 := (by omega); have zt3_1 : ¬ w3.heap.size + 1 = w2.heap.size := (by omega); have zr3_1 : ¬ w2.heap.size = w3.heap.size + 1 := (by omega)
 obtain ⟨p1, p2⟩ := hx1 (by decide)
 obtain ⟨p3, p4⟩ := hx2 (by decide)
 clear hx1 hx2 hx3
 by_cases k1 : x3 = 0
 ·subst k1
  go_wp2_with fail; (with_reducible refine (spec_l01Next g _ _ swz (by decide)).mono ?_); rintro e w4 ⟨⟨x4, rfl, hx4⟩, hg4, hs4⟩; have hc4 := gcell hg4; have hf4 := gfroz hg4; have lg4 := Src.lt hs4; have nga4 : ¬ w4.heap.size = g := (by omega); have ngb4 : ¬ g = w4.heap.size := (by omega); have hzs4 := hg4.size; (try simp at hzs4); have zx4_0 : w.heap.size < w4.heap.size := (by first | omega | (simp at hzs4; omega)); have zy4_0 : w.heap.size < w4.heap.size + 1 := (by omega); have zw4_0 : ¬ w4.heap.size = w.heap.size := (by omega); have zv4_0 : ¬ w.heap.size = w4.heap.size := (by omega); have zu4_0 : w.heap.size < w4.heap.size + 1 + 1 := (by omega); have zt4_0 : ¬ w4.heap.size + 1 = w.heap.size := (by omega); have zr4_0 : ¬ w.heap.size = w4.heap.size + 1 := (by omega); have zx4_1 : w2.heap.size < w4.heap.size := (by first | omega | (simp at hzs4; omega)); have zy4_1 : w2.heap.size < w4.heap.size + 1 := (by omega); have zw4_1 : ¬ w4.heap.size = w2.heap.size := (by omega); have zv4_1 : ¬ w2.heap.size = w4.heap.size := (by omega); have zu4_1 : w2.heap.size < w4.heap.size + 1 + 1 := (by omega); have zt4_1 : ¬ w4.heap.size + 1 = w2.heap.size := (by omega); have zr4_1 : ¬ w2.heap.size = w4.heap.size + 1 := (by omega)
  go_wp2_with fail; (with_reducible refine (spec_l01Next g _ _ swz (by decide)).mono ?_); rintro e w5 ⟨⟨x5, rfl, hx5⟩, hg5, hs5⟩; have hc5 := gcell hg5; have hf5 := gfroz hg5; have lg5 := Src.lt hs5; have nga5 : ¬ w5.heap.size = g := (by omega); have ngb5 : ¬ g = w5.heap.size := (by omega); have hzs5 := hg5.size; (try simp at hzs5); have zx5_0 : w.heap.size < w5.heap.size := (by first | omega | (simp at hzs5; omega)); have zy5_0 : w.heap.size < w5.heap.size + 1 := (by omega); have zw5_0 : ¬ w5.heap.size = w.heap.size := (by omega); have zv5_0 : ¬ w.heap.size = w5.heap.size := (by omega); have zu5_0 : w.heap.size < w5.heap.size + 1 + 1 := (by omega); have zt5_0 : ¬ w5.heap.size + 1 = w.heap.size := (by omega); have zr5_0 : ¬ w.heap.size = w5.heap.size + 1 := (by omega); have zx5_1 : w2.heap.size < w5.heap.size := (by first | omega | (simp at hzs5; omega)); have zy5_1 : w2.heap.size < w5.heap.size + 1 := (by omega); have zw5_1 : ¬ w5.heap.size = w2.heap.size := (by omega); have zv5_1 : ¬ w2.heap.size = w5.heap.size := (by omega); have zu5_1 : w2.heap.size < w5.heap.size + 1 + 1 := (by omega); have zt5_1 : ¬ w5.heap.size + 1 = w2.heap.size := (by omega); have zr5_1 : ¬ w2.heap.size = w5.heap.size + 1 := (by omega)
  obtain ⟨p5, p6⟩ := hx4 (by decide)
  obtain ⟨p7, p8⟩ := hx5 (by decide)
  clear hx4 hx5
  go_upto_region 4 with fail
  obtain ⟨wG, hG⟩ : ∃ W, W = (w5.setCell ⟨w2.heap.size, 0, none⟩ (.int .i64 (x4 - 1000))).setCell ⟨w2.heap.size, 1, none⟩ (.int .i64 (x5 - 1000)) := ⟨_, rfl⟩
  have gG : w.grownBy wG (some g) := by rw [hG]; exact gwz
  have sG : Src wG g := by rw [hG]; exact swz
  have c0 : wG.cell? ⟨w2.heap.size, 0, none⟩ = some (.int .i64 (x4 - 1000)) := by rw [hG]; go_simp
  have c1 : wG.cell? ⟨w2.heap.size, 1, none⟩ = some (.int .i64 (x5 - 1000)) := by rw [hG]; go_simp
  have f1 : wG.frozen? ⟨w2.heap.size, 1, none⟩ = false := by rw [hG]; go_simp
  have r0 : wG.cell? ⟨w.heap.size, 0, none⟩ = some (.int .i64 0) := by rw [hG]; go_simp
  have r1 : wG.cell? ⟨w.heap.size, 1, none⟩ = some (.int .i64 0) := by rw [hG]; go_simp
  have s0 : wG.frozen? ⟨w.heap.size, 0, none⟩ = false := by rw [hG]; go_simp
  have s1 : wG.frozen? ⟨w.heap.size, 1, none⟩ = false := by rw [hG]; go_simp
  rw [← hG]
  clear hG
  rcases (by omega : ¬ x4 - 1000 = 0 ∨ (x4 = 1000 ∧ ¬ x5 - 1000 = 0) ∨ (x4 = 1000 ∧ x5 = 1000)) with e | ⟨rfl, e⟩ | ⟨rfl, rfl⟩
  all_goals
   go_wp2
   simp [bodyPost, results, Tryz.results102, go_sem, *]
   exact ⟨⟨_, _, rfl⟩, gwz, swz⟩
 ·have k2 : (x3 == 0) = false := beq_eq_false_iff_ne.2 k1
  rcases (by omega : ¬ x1 - 3 = 0 ∨ (x1 = 3 ∧ ¬ x2 - 3 = 0) ∨ (x1 = 3 ∧ x2 = 3)) with e | ⟨rfl, e⟩ | ⟨rfl, rfl⟩
  all_goals
   go_wp2
   simp [bodyPost, results, Tryz.results102, go_sem, *]
   exact ⟨⟨_, _, rfl⟩, gwz, swz⟩
set_option maxRecDepth 100000 in
set_option maxHeartbeats 4000000 in
theorem spec_l08DrawAny (g : Nat) (w : World) (h : Src w g) : Calls Tryz.prog 57 #[.pointer (some ⟨g, 0, none⟩)] w (PtC w g) := by
 have ng := Src.lt h
 have nz0 : ¬ w.heap.size = g := by omega
 have nz1 : ¬ g = w.heap.size := by omega
 go_enter Tryz.func57, Tryz.ntmps57
 go_wp2_with fail; (with_reducible refine (spec_l01Next g _ _ swz (by decide)).mono ?_); rintro e w1 ⟨⟨x1, rfl, hx1⟩, hg1, hs1⟩; have hc1 := gcell hg1; have hf1 := gfroz hg1; have lg1 := Src.lt hs1; have nga1 : ¬ w1.heap.size = g := (by omega); have ngb1 : ¬ g = w1.heap.size := (by omega); have hzs1 := hg1.size; (try simp at hzs1); have zx1_0 : w.heap.size < w1.heap.size := (by first | omega | (simp at hzs1; omega)); have zy1_0 : w.heap.size < w1.heap.size + 1 := (by omega); have zw1_0 : ¬ w1.heap.size = w.heap.size := (by omega); have zv1_0 : ¬ w.heap.size = w1.heap.size := (by omega); have zu1_0 : w.heap.size < w1.heap.size + 1 + 1 := (by omega); have zt1_0 : ¬ w1.heap.size + 1 = w.heap.size := (by omega); have zr1_0 : ¬ w.heap.size = w1.heap.size + 1 := (by omega)
 clear hx1
 by_cases k1 : x1 = 0
 ·subst k1
  go_wp2_with fail; (with_reducible refine (spec_l01NextN g 3 3 _ swz (by decide) (by decide) (by decide)).mono ?_); rintro e w2 ⟨⟨x2, rfl, hx2⟩, hg2, hs2⟩; have hc2 := gcell hg2; have hf2 := gfroz hg2; have lg2 := Src.lt hs2; have nga2 : ¬ w2.heap.size = g := (by omega); have ngb2 : ¬ g = w2.heap.size := (by omega); have hzs2 := hg2.size; (try simp at hzs2); have zx2_0 : w.heap.size < w2.heap.size := (by first | omega | (simp at hzs2; omega)); have zy2_0 : w.heap.size < w2.heap.size + 1 := (by omega); have zw2_0 : ¬ w2.heap.size = w.heap.size := (by omega); have zv2_0 : ¬ w.heap.size = w2.heap.size := (by omega); have zu2_0 : w.heap.size < w2.heap.size + 1 + 1 := (by omega); have zt2_0 : ¬ w2.heap.size + 1 = w.heap.size := (by omega); have zr2_0 : ¬ w.heap.size = w2.heap.size + 1 := (by omega); have zx2_1 : w1.heap.size < w2.heap.size := (by first | omega | (simp at hzs2; omega)); have zy2_1 : w1.heap.size < w2.heap.size + 1 := (by omega); have zw2_1 : ¬ w2.heap.size = w1.heap.size := (by omega); have zv2_1 : ¬ w1.heap.size = w2.heap.size := (by omega); have zu2_1 : w1.heap.size < w2.heap.size + 1 + 1 := (by omega); have zt2_1 : ¬ w2.heap.size + 1 = w1.heap.size := (by omega); have zr2_1 : ¬ w1.heap.size = w2.heap.size + 1 := (by omega)
  rcases (by omega : x2 = 0 ∨ x2 = 1 ∨ x2 = 2) with rfl | rfl | rfl
  all_goals
   go_wp2
   simp [bodyPost, results, Tryz.results57, go_sem, *]
   exact ⟨⟨_, _, rfl⟩, gwz, swz⟩
 ·have k2 : (x1 == 0) = false := beq_eq_false_iff_ne.2 k1
  go_wp2_with fail; (with_reducible refine (spec_l08Draw g _ swz).mono ?_); rintro e w2 ⟨⟨a2, b2, rfl⟩, hg2, hs2⟩; have hc2 := gcell hg2; have hf2 := gfroz hg2; have lg2 := Src.lt hs2; have nga2 : ¬ w2.heap.size = g := (by omega); have ngb2 : ¬ g = w2.heap.size := (by omega); have hzs2 := hg2.size; (try simp at hzs2); have zx2_0 : w.heap.size < w2.heap.size := (by first | omega | (simp at hzs2; omega)); have zy2_0 : w.heap.size < w2.heap.size + 1 := (by omega); have zw2_0 : ¬ w2.heap.size = w.heap.size := (by omega); have zv2_0 : ¬ w.heap.size = w2.heap.size := (by omega); have zu2_0 : w.heap.size < w2.heap.size + 1 + 1 := (by omega); have zt2_0 : ¬ w2.heap.size + 1 = w.heap.size := (by omega); have zr2_0 : ¬ w.heap.size = w2.heap.size + 1 := (by omega)
  go_wp2
  simp [bodyPost, results, Tryz.results57, go_sem, *]
  exact ⟨⟨_, _, rfl⟩, gwz, swz⟩
end Go.Proofs.YtgcdgdnmcdffoaaGreatDoor
/- Walks: hulls are drawn. -/
namespace Go.Proofs.YtgcdgdnmcdffoaaGreatDoor
open Go.RowKit

/-- What a draw of a hull returns. -/
def HuD (w : World) (g : Nat) (e : Ending) (w' : World) : Prop := (∃ a b c d l : Int, e = .returned (.agg #[.int .i64 a, .int .i64 b, .int .i64 c, .int .i64 d, .int .i64 l])) ∧ w.grownBy w' (some g) ∧ Src w' g
end Go.Proofs.YtgcdgdnmcdffoaaGreatDoor
/- Walks: the law's bound on codes; the draws that the laws begin with. -/
namespace Go.Proofs.YtgcdgdnmcdffoaaGreatDoor
open Go.RowKit

theorem laws_big (so : Option Addr) (n cap : Nat) (w : World) (hn : n ≤ 9223372036854775807) :
 Calls Tryz.prog 8 #[.slice so n cap] w fun e w' => e = .returned (.bool (decide (4096 < n))) ∧ w = w' := by
 by_cases h : 4096 < n
 ·go_enter Tryz.func8, Tryz.ntmps8
  go_wp2
  go_ret
  exact ⟨ret_b (by rw [decide_eq_decide]; omega), rfl⟩
 ·go_enter Tryz.func8, Tryz.ntmps8
  go_wp2
  go_ret
  exact ⟨ret_b (by rw [decide_eq_decide]; omega), rfl⟩
theorem below_gr {w W W' : World} {B g : Nat} (h : Below B w W) (k : W.grownBy W' (some g)) (hB : B ≤ W.heap.size) (hg : B ≤ g) : Below B w W' :=
 h.trans (below_grown' k hB hg)
end Go.Proofs.YtgcdgdnmcdffoaaGreatDoor
/- Walks: a code is changed into another; a wind and points are drawn. -/
namespace Go.Proofs.YtgcdgdnmcdffoaaGreatDoor
open Go.RowKit

theorem own1_of_row {w : World} {B : Nat} {e : TypeId} {v : Value} {L : List Int} {n : Nat} (hn : n = L.length) (h : w.ownsRow B e 1 v n (L.map (Value.int .u8))) : ∃ so cap, v = .slice so n cap ∧ RowAt w so n 1 (vb fun i => L[i]?.getD 0) := by
 subst hn
 have hc := fun g (hg : v.ownBlock = some g) => World.ownsRow.cells h hg
 obtain ⟨_, ⟨rfl, h0⟩ | ⟨g, cap, cur, rfl, hB, hg, hn, _, hsz, htk⟩⟩ := h
 ·exact ⟨none, 0, by rw [h0], fun i hi => absurd hi (by omega)⟩
 ·refine ⟨some ⟨g, 0, none⟩, cap, rfl, fun i hi => ⟨g, 0, rfl, fun j hj => ?_⟩⟩
  obtain rfl : j = 0 := by omega
  have := hc g rfl i (.int .u8 (L[i]?.getD 0)) (by rw [List.getElem?_map, List.getElem?_eq_getElem hi]; rfl)
  rw [Addr.add_lit] at this
  simpa [vb] using this
theorem byte_all {L : List Int} (h : ∀ x ∈ L, 0 ≤ x ∧ x ≤ 255) (i : Nat) : 0 ≤ L[i]?.getD 0 ∧ L[i]?.getD 0 ≤ 255 := by
 rcases Nat.lt_or_ge i L.length with k | k
 ·rw [List.getElem?_eq_getElem k]; exact h _ (List.getElem_mem k)
 ·rw [List.getElem?_eq_none k]; exact ⟨by decide, by decide⟩
/-- The bytes of a code, as a list. -/
def bl (B : Nat → Int) (n : Nat) : List Int := (List.range n).map B
theorem bl_len (B : Nat → Int) (n : Nat) : (bl B n).length = n := by simp [bl]
theorem bl_cells {w : World} {ad : Addr} {n : Nat} {B : Nat → Int} (r : RowAt w (some ad) n 1 (vb B)) : ∀ (j : Nat) (u : Value), ((bl B n).map (Value.int .u8))[j]? = some u → w.cell? (ad.add j) = some u := fun j u hj => by
 have hjn : j < n := by
  rcases Nat.lt_or_ge j n with k | k
  ·exact k
  ·rw [List.getElem?_eq_none (by simpa [bl] using k)] at hj; cases hj
 obtain ⟨b, o, e, k⟩ := r j hjn
 injection e with e
 subst e
 have h1 := k 0 (by decide)
 have h2 : u = .int .u8 (B j) := by
  rw [bl, List.map_map, List.getElem?_map, List.getElem?_range hjn] at hj
  simpa using hj.symm
 rw [Addr.add_lit, h2]
 simpa [vb] using h1
theorem Src.keepB {W W' : World} {g : Nat} (hb : Below (g + 1) W W') (h : Src W g) : Src W' g := by
 obtain ⟨so, n, cap, B, a, sd, h0, hr, hB, h3, h4, h5, h6, c0, c1, c2, f1, f2⟩ := h
 have cc := (bcell hb).1
 have cf := (bcell hb).2
 refine ⟨so, n, cap, B, a, sd, h0, fun i hi => ?_, hB, h3, h4, h5, h6, (cc _ _ (by omega)).trans c0, (cc _ _ (by omega)).trans c1, (cc _ _ (by omega)).trans c2, (cf _ _ (by omega)).trans f1, (cf _ _ (by omega)).trans f2⟩
 obtain ⟨b, o, e, k⟩ := hr i hi
 exact ⟨b, o, e, fun j hj => (cc _ _ (by have := h3 b o e (by omega); omega)).trans (k j hj)⟩
end Go.Proofs.YtgcdgdnmcdffoaaGreatDoor
