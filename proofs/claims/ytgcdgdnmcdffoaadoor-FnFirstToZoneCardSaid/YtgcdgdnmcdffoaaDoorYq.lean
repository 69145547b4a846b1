/- Walks: what laws over a course, a mark and a list of tracks begin with. -/
import Derived.Test.YtgcdgdnmcdffoaaDoorYg
import Derived.Test.YtgcdgdnmcdffoaaDoorYl
import Derived.Test.YtgcdgdnmcdffoaaDoorTm
import Derived.Deep.AppendLies
import Derived.Deep.Cut
import Derived.Deep.DeepCutAuto
import Derived.Deep.CutBlock
namespace Go.Proofs.YtgcdgdnmcdffoaaDoor
open Go.RowKit
theorem trk_made {w : World} {D B m h : Nat} (hh : w.heap.size = h) (hB : B ≤ h) (hm : m ≤ 1000) : Trk (w.alloc (.cells (madeCells #[.slice none 0 0] m) 33)) D B (.slice (some ⟨h, 0, none⟩) m m) m := by
 subst hh
 exact Trk.made hB hm
/-- What DrawFirstToZone returns. -/
def PDrawFirstToZone (w : World) (e : Ending) (w' : World) : Prop := (∃ (ax ay bx bY cx cy dx dy : Int) (cs : Option Addr) (m mcap : Nat) (N : Nat → ByteArray) (X Y S Z : Nat → Int) (k : Int) (so2 : Option Addr) (n2 cap2 : Nat) (A : Nat → Option Addr) (nn C : Nat → Nat) (T U V : Nat → Nat → Int), e = .returned (.tuple #[.agg #[.int .i64 ax, .int .i64 ay, .int .i64 bx, .int .i64 bY, .int .i64 cx, .int .i64 cy, .int .i64 dx, .int .i64 dy, .slice cs m mcap], .int .i64 k, .slice so2 n2 cap2]) ∧ m ≤ 9 ∧ m ≤ mcap ∧ n2 ≤ 17 ∧ (∀ i, i < n2 → nn i ≤ 41) ∧ RowAt w' cs m 5 (v5 N X Y S Z) ∧ Trs w' so2 n2 A nn C T U V) ∧ Below w.heap.size w w'
theorem PDrawFirstToZone.mk {w W' : World} {D B M : Nat} {v : Value} {ax ay bx bY cx cy dx dy k : Int} {cs : Option Addr} {m mcap : Nat} {N : Nat → ByteArray} {X Y S Z : Nat → Int} (q1 : m ≤ 9) (q2 : m ≤ mcap) (hM : M ≤ 17) (ho : RowAt W' cs m 5 (v5 N X Y S Z)) (hT : Trk W' D B v M) (hb : Below w.heap.size w W') :
 PDrawFirstToZone w (.returned (.tuple #[.agg #[.int .i64 ax, .int .i64 ay, .int .i64 bx, .int .i64 bY, .int .i64 cx, .int .i64 cy, .int .i64 dx, .int .i64 dy, .slice cs m mcap], .int .i64 k, v])) W' := by
 obtain ⟨so2, cap2, A, nn, C, T, U, V, rfl, h1, h2⟩ := hT.read
 exact ⟨⟨_, _, _, _, _, _, _, _, cs, m, mcap, N, X, Y, S, Z, k, so2, M, cap2, A, nn, C, T, U, V, rfl, q1, q2, hM, h2, ho, h1⟩, hb⟩
set_option maxRecDepth 100000 in
set_option maxHeartbeats 16000000 in
theorem spec_DrawFirstToZone (so : Option Addr) (n cap : Nat) (B : Nat → Int) (w : World) (h : RowAt w so n 1 (vb B)) (hB : ∀ i, 0 ≤ B i ∧ B i ≤ 255) (hn : n ≤ 1048576) :
 Calls Tryd.prog 12 #[.slice so n cap] w (PDrawFirstToZone w) := by
 obtain ⟨i0, hi, hz0, hz1, hz2⟩ := info_parts infoTrk
 have HMK := hide (fun (M : Nat) (hM : M ≤ 1000) W => run_make_rowN (P := Tryd.prog) 44 33 i0 _ Tryd.underlying44 hi hz0 M (by rw [hz2]; omega) (by omega) W)
 have Hi := hide hi
 have Hz := hide (And.intro hz0 (And.intro hz1 hz2))
 clear hi hz0 hz1 hz2
 go_enter Tryd.func12, Tryd.ntmps12
 go_wp2_with fail; (with_reducible refine (spec_l01From so n cap B _ (RowAt.later bwz h) hB hn).mono ?_); rintro e w1 ⟨rfl, hs1, hb1⟩
 simp only [size_al] at hs1
 have hz1 := hb1.size
 simp only [size_al] at hz1
 have HR0 := hide (Mine.later hb1 (mine_make (w := w) (c := #[.int .i64 0, .int .i64 0, .int .i64 0, .int .i64 0, .int .i64 0, .int .i64 0, .int .i64 0, .int .i64 0, .slice none 0 0]) (t := 30) (m := 9) rfl))
 have HB1 := hide (show Below w.heap.size w w1 from bwz)
 clear hb1 h hB hn
 obtain ⟨g, hg⟩ : ∃ g, g = w.heap.size + 1 := ⟨_, rfl⟩
 simp only [size_al]
 rw [← hg] at hs1 ⊢
 have gl : w.heap.size ≤ g := by omega
 have g0 : ¬ w.heap.size = g := by omega
 have g0' : ¬ g = w.heap.size := by omega
 have zw0 : w.heap.size < w1.heap.size := by omega
 have lg0 := Src.lt hs1
 clear hg
 go_wp2_with fail; (with_reducible refine (spec_l07Draw g _ hs1).mono ?_); rintro e w2 ⟨⟨ax, ay, bx, bY, cx, cy, dx, dy, cs, m, mcap, N, X, Y, S, Z, k, so2, n2, cap2, Lt, rfl, q1, q2, ho, q3, q4, q5, ht⟩, hg2, hs2⟩; have hc2 := gcell hg2; have hf2 := gfroz hg2; have lg2 := Src.lt hs2; have nga2 : ¬ w2.heap.size = g := (by omega); have ngb2 : ¬ g = w2.heap.size := (by omega); have hzs2 := hg2.size; (try simp at hzs2); have zx2_0 : w.heap.size < w2.heap.size := (by first | omega | (simp at hzs2; omega)); have zy2_0 : w.heap.size < w2.heap.size + 1 := (by omega); have zw2_0 : ¬ w2.heap.size = w.heap.size := (by omega); have zv2_0 : ¬ w.heap.size = w2.heap.size := (by omega); have zu2_0 : w.heap.size < w2.heap.size + 1 + 1 := (by omega); have zt2_0 : ¬ w2.heap.size + 1 = w.heap.size := (by omega); have zr2_0 : ¬ w.heap.size = w2.heap.size + 1 := (by omega)
 have HO := hide ho
 have HT := hide ht
 have hzz2 := hg2.size
 have HB2 := hide (below_gr HB1.out hg2 (by omega) gl)
 have HR2 := hide (mine_grow HR0.out hg2 zw0 g0)
 clear ho ht hc2 hf2 hg2 HR0 HB1
 go_upto_region 3 with fail
 obtain ⟨wB, hB9⟩ : ∃ W, W = (w2.alloc (.cells #[.int .i64 ax, .int .i64 ay, .int .i64 bx, .int .i64 bY, .int .i64 cx, .int .i64 cy, .int .i64 dx, .int .i64 dy, .slice cs m mcap] 30)).alloc (.cells #[.slice so2 n2 cap2] 33) := ⟨_, rfl⟩
 have szB : wB.heap.size ≤ w2.heap.size + 1 + 1 := by rw [hB9]; simp
 have szC : w2.heap.size + 1 + 1 ≤ wB.heap.size := by rw [hB9]; simp
 have sB : Src wB g := by rw [hB9]; exact swz
 have HBB := hide (show Below w.heap.size w wB by rw [hB9]; exact Below.alloc (Below.alloc HB2.out (by omega) _) (by simp; omega) _)
 have HoB := hide (show OwnM wB w1.heap.size N X Y S Z m cs by rw [hB9]; exact (HO.out.later (Below.alloc (Below.refl _ _) (Nat.le_refl _) _)).later (Below.alloc (Below.refl _ _) (Nat.le_refl _) _))
 have HtB := hide (show OwnI 3 2000000000 wB w1.heap.size Lt n2 so2 by rw [hB9]; exact (HT.out.later (Below.alloc (Below.refl _ _) (Nat.le_refl _) _)).later (Below.alloc (Below.refl _ _) (Nat.le_refl _) _))
 have tt0 : wB.cell? ⟨w2.heap.size + 1, 0, none⟩ = some (.slice so2 n2 cap2) := by rw [hB9]; go_simp
 have HCB := hide (show CoB wB w2.heap.size ax ay bx bY cx cy dx dy cs m mcap by rw [hB9]; exact ⟨by go_simp, by go_simp, by go_simp, by go_simp, by go_simp, by go_simp, by go_simp, by go_simp, by go_simp, by go_simp, by go_simp, by go_simp, by go_simp, by go_simp, by go_simp, by go_simp, by go_simp, by go_simp⟩)
 have HRB := hide (show Mine wB w.heap.size 9 by rw [hB9]; exact Mine.later (Below.alloc (Below.refl _ _) (Nat.le_refl _) _) (Mine.later (Below.alloc (Below.refl _ _) (Nat.le_refl _) _) HR2.out))
 rw [← hB9]
 clear hB9
 clear hs2 HO HT HB2 HR2
 have HK0 := hide (Trk.one (B := wB.heap.size) (Nat.le_refl _) q4 q5 HtB.out)
 go_wp2_with fail; (with_reducible refine (spec_l01NextN g 4 4 _ (Src.alloc sB _) (by decide) (by decide) (by decide)).mono ?_); rintro e w3 ⟨⟨x3, rfl, hx3⟩, hg3, hs3⟩; have hc3 := gcell hg3; have hf3 := gfroz hg3; have lg3 := Src.lt hs3; have nga3 : ¬ w3.heap.size = g := (by omega); have ngb3 : ¬ g = w3.heap.size := (by omega); have hzs3 := hg3.size; (try simp at hzs3); have zx3_0 : w.heap.size < w3.heap.size := (by first | omega | (simp at hzs3; omega)); have zy3_0 : w.heap.size < w3.heap.size + 1 := (by omega); have zw3_0 : ¬ w3.heap.size = w.heap.size := (by omega); have zv3_0 : ¬ w.heap.size = w3.heap.size := (by omega); have zu3_0 : w.heap.size < w3.heap.size + 1 + 1 := (by omega); have zt3_0 : ¬ w3.heap.size + 1 = w.heap.size := (by omega); have zr3_0 : ¬ w.heap.size = w3.heap.size + 1 := (by omega); have zx3_1 : w2.heap.size < w3.heap.size := (by first | omega | (simp at hzs3; omega)); have zy3_1 : w2.heap.size < w3.heap.size + 1 := (by omega); have zw3_1 : ¬ w3.heap.size = w2.heap.size := (by omega); have zv3_1 : ¬ w2.heap.size = w3.heap.size := (by omega); have zu3_1 : w2.heap.size < w3.heap.size + 1 + 1 := (by omega); have zt3_1 : ¬ w3.heap.size + 1 = w2.heap.size := (by omega); have zr3_1 : ¬ w2.heap.size = w3.heap.size + 1 := (by omega)
 have hzz3 := hg3.size
 simp only [size_al] at hzz3
 have HK3 := hide (HK0.out.grown hg3 (by omega) (by omega))
 have HG3 := hide (gr_step (World.grownBy_alloc wB (.cells #[.slice so2 n2 cap2] 33) (some g)) hg3)
 have HS3 := hide hs3
 clear hc3 hf3 hg3 hs3 HK0 HtB sB tt0
 go_wp2
 go_loopw [9, 10] (fun v i wr => ∃ q x xo cp : Nat, 1 ≤ q ∧ q + x ≤ 4 ∧ i = .int .i64 (x : Int) ∧ v = .slice (some ⟨xo, 0, none⟩) q cp ∧ Hid (Trk wr w1.heap.size wB.heap.size (.slice (some ⟨xo, 0, none⟩) q cp) q) ∧ Hid (Src wr g) ∧ Hid (wB.grownBy wr (some g))) (fun _ i _ => (intOf i).toNat)
 case atStart => exact ⟨1, x3, wB.heap.size, 1, Nat.le_refl _, by omega, rfl, rfl, HK3, HS3, HG3⟩
 case round =>
  clear HK3 HS3 HG3 hx3 zx3_0 zx3_1 zy3_0 zy3_1
  obtain ⟨q, x, xo, cp, hq1, hqx, rfl, rfl, HK, HS, HG⟩ := hrel
  have zr := HG.out.size
  obtain ⟨zx0, zx1⟩ := HK.out.at
  have lgr := Src.lt HS.out
  have gw2 : ¬ w2.heap.size = g := by omega
  have HC := hide (HCB.out.grown HG.out (by omega) gw2)
  by_cases hx0 : 0 < x
  ·have hxi : (0 : Int) < (x : Int) := by omega
   obtain ⟨y, hy⟩ : ∃ y, y = x - 1 := ⟨_, rfl⟩
   have wy : IntKind.i64.wrap ((x : Int) - 1) = (y : Int) := by rw [IntWalk.i64_in _ (by omega)]; omega
   have hy1 : y + 1 ≤ x := by omega
   have hy2 : x ≤ y + 1 := by omega
   clear hy
   obtain ⟨c0, c1, c2, c3, c4, c5, c6, c7, c8, f0, f1, f2, f3, f4, f5, f6, f7, f8⟩ := HC.out
   go_wp2_with fail; (with_reducible refine (spec_l06DrawSail ax ay bx bY cx cy dx dy cs m mcap N X Y S Z g _ HS.out (fun W hg => (HoB.out.grown (gr_step HG.out hg) (by omega)).row) (by omega)).mono ?_); rintro e w4 ⟨⟨so5, n5, cap5, L5, rfl, u1, u2, u3, ho5⟩, hg4, hs4⟩; have hc4 := gcell hg4; have hf4 := gfroz hg4; have lg4 := Src.lt hs4; have nga4 : ¬ w4.heap.size = g := (by omega); have ngb4 : ¬ g = w4.heap.size := (by omega); have hzs4 := hg4.size; (try simp at hzs4); have zx4_0 : w.heap.size < w4.heap.size := (by first | omega | (simp at hzs4; omega)); have zy4_0 : w.heap.size < w4.heap.size + 1 := (by omega); have zw4_0 : ¬ w4.heap.size = w.heap.size := (by omega); have zv4_0 : ¬ w.heap.size = w4.heap.size := (by omega); have zu4_0 : w.heap.size < w4.heap.size + 1 + 1 := (by omega); have zt4_0 : ¬ w4.heap.size + 1 = w.heap.size := (by omega); have zr4_0 : ¬ w.heap.size = w4.heap.size + 1 := (by omega); have zx4_1 : w2.heap.size < w4.heap.size := (by first | omega | (simp at hzs4; omega)); have zy4_1 : w2.heap.size < w4.heap.size + 1 := (by omega); have zw4_1 : ¬ w4.heap.size = w2.heap.size := (by omega); have zv4_1 : ¬ w2.heap.size = w4.heap.size := (by omega); have zu4_1 : w2.heap.size < w4.heap.size + 1 + 1 := (by omega); have zt4_1 : ¬ w4.heap.size + 1 = w2.heap.size := (by omega); have zr4_1 : ¬ w2.heap.size = w4.heap.size + 1 := (by omega); have zx4_2 : xo < w4.heap.size := (by first | omega | (simp at hzs4; omega)); have zy4_2 : xo < w4.heap.size + 1 := (by omega); have zw4_2 : ¬ w4.heap.size = xo := (by omega); have zv4_2 : ¬ xo = w4.heap.size := (by omega); have zu4_2 : xo < w4.heap.size + 1 + 1 := (by omega); have zt4_2 : ¬ w4.heap.size + 1 = xo := (by omega); have zr4_2 : ¬ xo = w4.heap.size + 1 := (by omega)
   have hzA := hg4.size
   have HK4 := hide (HK.out.grown hg4 (by omega) (by omega))
   have HG4 := hide (gr_step HG.out hg4)
   have HS4 := hide hs4
   obtain ⟨A1, nn1, C1, L1, h1, h2⟩ := HK4.out
   have HOw := hide h1
   have HH2 := hide h2
   have hr5 := ho5.mono (show (40000 : Int) ≤ 2000000000 by decide) (show w1.heap.size ≤ _ by omega)
   have HR5 := hide hr5
   have hl5 : ∀ b, so5 = some ⟨b, 0, none⟩ → b ≠ xo := fun b e => by have := own_blk ho5 e; omega
   have HL5 := hide hl5
   clear h1 h2 ho5 hr5 hl5 HK4 hc4 hf4 hg4 hs4 c0 c1 c2 c3 c4 c5 c6 c7 c8 f0 f1 f2 f3 f4 f5 f6 f7 f8
   go_wp2_with (at_builtin; refine wpList_append_lies _ rfl _ _ 44 rfl wB.heap.size 33 i0 _ 1 24 Tryd.underlying44 Hi.out Hz.out.1 Hz.out.2.1 Hz.out.2.2 rfl (by decide) _ _ _ rfl (HOw.out.alloc _) ⟨w4.heap.size, 0, none⟩ 1 1 [.slice so5 n5 cap5] rfl rfl new1 (oneT _ _ _) (by decide) (by unfold maxLen; omega) (by omega) (by simp; omega) (w4.heap.size + 1) (by simp) ?_)
   intro g' cap' wA hown' hgr hat hlt'
   have hgr2 : (w4.alloc (.cells #[.slice so5 n5 cap5] 33)).grownBy wA (some xo) := hgr
   have hb := below_grown HOw.out (by omega) hgr
   have hsA := World.grownBy.size hgr
   simp only [size_al] at hsA
   have hat2 : g' = xo ∨ (w4.alloc (.cells #[.slice so5 n5 cap5] 33)).heap.size ≤ g' := hat.imp (fun e => by simp only [Value.ownBlock, Option.some.injEq] at e; exact e.symm) (fun e => by simp; omega)
   have hal := Below.alloc (Below.refl w4.heap.size w4) (Nat.le_refl _) (.cells #[.slice so5 n5 cap5] 33)
   have HKA := hide (Trk.app (w := w4.alloc (.cells #[.slice so5 n5 cap5] 33)) (fun i hi => ⟨(HH2.out i hi).1, (HH2.out i hi).2.1, (HH2.out i hi).2.2.1.later hal, fun b e => ⟨by simp; have := ((HH2.out i hi).2.2.2 b e).1; omega, ((HH2.out i hi).2.2.2 b e).2⟩⟩) (by omega) u3 (HR5.out.later hal) HL5.out hown' hgr2 hat2)
   have HSA := hide (Src.keepB (hb.mono (by omega)) HS4.out)
   have HGA := hide (gr_belowB HG4.out hb)
   have zgA : w2.heap.size < wA.heap.size := by omega
   have zxA : xo < wA.heap.size := by omega
   clear hal hgr hgr2 hown' hb hat hat2 HOw HH2 HR5 HL5 HS4 HG4 u1 u2 u3
   go_wp2
   go_roundw
   case rel => exact ⟨q + 1, y, g', cap', by omega, by omega, rfl, rfl, HKA, HSA, HGA⟩
   case measure => simp [intOf]; omega
  ·have hxi : ¬ (0 : Int) < (x : Int) := by omega
   go_wp2_with fail; (with_reducible refine (spec_l01NextN g 30 30 _ HS.out (by decide) (by decide) (by decide)).mono ?_); rintro e w5 ⟨⟨x5, rfl, hx5⟩, hg5, hs5⟩; have hc5 := gcell hg5; have hf5 := gfroz hg5; have lg5 := Src.lt hs5; have nga5 : ¬ w5.heap.size = g := (by omega); have ngb5 : ¬ g = w5.heap.size := (by omega); have hzs5 := hg5.size; (try simp at hzs5); have zx5_0 : w.heap.size < w5.heap.size := (by first | omega | (simp at hzs5; omega)); have zy5_0 : w.heap.size < w5.heap.size + 1 := (by omega); have zw5_0 : ¬ w5.heap.size = w.heap.size := (by omega); have zv5_0 : ¬ w.heap.size = w5.heap.size := (by omega); have zu5_0 : w.heap.size < w5.heap.size + 1 + 1 := (by omega); have zt5_0 : ¬ w5.heap.size + 1 = w.heap.size := (by omega); have zr5_0 : ¬ w.heap.size = w5.heap.size + 1 := (by omega); have zx5_1 : w2.heap.size < w5.heap.size := (by first | omega | (simp at hzs5; omega)); have zy5_1 : w2.heap.size < w5.heap.size + 1 := (by omega); have zw5_1 : ¬ w5.heap.size = w2.heap.size := (by omega); have zv5_1 : ¬ w2.heap.size = w5.heap.size := (by omega); have zu5_1 : w2.heap.size < w5.heap.size + 1 + 1 := (by omega); have zt5_1 : ¬ w5.heap.size + 1 = w2.heap.size := (by omega); have zr5_1 : ¬ w2.heap.size = w5.heap.size + 1 := (by omega); have zx5_2 : xo < w5.heap.size := (by first | omega | (simp at hzs5; omega)); have zy5_2 : xo < w5.heap.size + 1 := (by omega); have zw5_2 : ¬ w5.heap.size = xo := (by omega); have zv5_2 : ¬ xo = w5.heap.size := (by omega); have zu5_2 : xo < w5.heap.size + 1 + 1 := (by omega); have zt5_2 : ¬ w5.heap.size + 1 = xo := (by omega); have zr5_2 : ¬ xo = w5.heap.size + 1 := (by omega)
   have hzz5 := hg5.size
   have HK5 := hide (HK.out.grown hg5 (by omega) (by omega))
   have HG5 := hide (gr_step HG.out hg5)
   have HS5 := hide hs5
   clear hc5 hf5 hg5 hs5 HK HS HG HC
   have hq17 : q ≤ 17 := by omega
   by_cases e5 : x5 = 0
   ·subst e5
    go_wp2_with fail; (with_reducible refine (spec_l01NextN g 2 2 _ HS5.out (by decide) (by decide) (by decide)).mono ?_); rintro e w6 ⟨⟨x6, rfl, hx6⟩, hg6, hs6⟩; have hc6 := gcell hg6; have hf6 := gfroz hg6; have lg6 := Src.lt hs6; have nga6 : ¬ w6.heap.size = g := (by omega); have ngb6 : ¬ g = w6.heap.size := (by omega); have hzs6 := hg6.size; (try simp at hzs6); have zx6_0 : w.heap.size < w6.heap.size := (by first | omega | (simp at hzs6; omega)); have zy6_0 : w.heap.size < w6.heap.size + 1 := (by omega); have zw6_0 : ¬ w6.heap.size = w.heap.size := (by omega); have zv6_0 : ¬ w.heap.size = w6.heap.size := (by omega); have zu6_0 : w.heap.size < w6.heap.size + 1 + 1 := (by omega); have zt6_0 : ¬ w6.heap.size + 1 = w.heap.size := (by omega); have zr6_0 : ¬ w.heap.size = w6.heap.size + 1 := (by omega); have zx6_1 : w2.heap.size < w6.heap.size := (by first | omega | (simp at hzs6; omega)); have zy6_1 : w2.heap.size < w6.heap.size + 1 := (by omega); have zw6_1 : ¬ w6.heap.size = w2.heap.size := (by omega); have zv6_1 : ¬ w2.heap.size = w6.heap.size := (by omega); have zu6_1 : w2.heap.size < w6.heap.size + 1 + 1 := (by omega); have zt6_1 : ¬ w6.heap.size + 1 = w2.heap.size := (by omega); have zr6_1 : ¬ w2.heap.size = w6.heap.size + 1 := (by omega); have zx6_2 : xo < w6.heap.size := (by first | omega | (simp at hzs6; omega)); have zy6_2 : xo < w6.heap.size + 1 := (by omega); have zw6_2 : ¬ w6.heap.size = xo := (by omega); have zv6_2 : ¬ xo = w6.heap.size := (by omega); have zu6_2 : xo < w6.heap.size + 1 + 1 := (by omega); have zt6_2 : ¬ w6.heap.size + 1 = xo := (by omega); have zr6_2 : ¬ xo = w6.heap.size + 1 := (by omega)
    have hzz6 := hg6.size
    have HG6 := hide (gr_step HG5.out hg6)
    obtain ⟨M, hM⟩ : ∃ M, M = 16 + x6 := ⟨_, rfl⟩
    have wM : IntKind.i64.wrap (16 + (x6 : Int)) = (M : Int) := by rw [IntWalk.i64_in _ (by omega)]; omega
    have hmk := fun W => (show (Instr.makeSlice 44 (.int .i64 (M : Int)) (.int .i64 (M : Int))).run Tryd.prog W = .ok (.slice (some ⟨W.heap.size, 0, none⟩) M M) (W.alloc (.cells (madeCells #[.slice none 0 0] M) 33)) from by have h := HMK.out M (by omega) W; rw [Hz.out.2.1, Nat.mul_one] at h; exact h)
    have hM17 : M ≤ 17 := by omega
    have HC6 := hide (HCB.out.grown HG6.out (by omega) gw2)
    have HR6 := hide (mine_grow HRB.out HG6.out (by omega) g0)
    obtain ⟨c0, c1, c2, c3, c4, c5, c6, c7, c8, f0, f1, f2, f3, f4, f5, f6, f7, f8⟩ := HC6.out
    obtain ⟨v0, cy0, fy0⟩ := HR6.out.cells 0 (by decide)
    obtain ⟨v1, cy1, fy1⟩ := HR6.out.cells 1 (by decide)
    obtain ⟨v2, cy2, fy2⟩ := HR6.out.cells 2 (by decide)
    obtain ⟨v3, cy3, fy3⟩ := HR6.out.cells 3 (by decide)
    obtain ⟨v4, cy4, fy4⟩ := HR6.out.cells 4 (by decide)
    obtain ⟨v5, cy5, fy5⟩ := HR6.out.cells 5 (by decide)
    obtain ⟨v6, cy6, fy6⟩ := HR6.out.cells 6 (by decide)
    obtain ⟨v7, cy7, fy7⟩ := HR6.out.cells 7 (by decide)
    obtain ⟨v8, cy8, fy8⟩ := HR6.out.cells 8 (by decide)
    have hKm := hide (Trk.made (w := w6) (D := w1.heap.size) (B := wB.heap.size) (m := M) (by omega) (by omega))
    have HB6 := hide (below_gr HBB.out HG6.out (by omega) gl)
    have HbM := hide (HoB.out.grown HG6.out (by omega))
    have hb6 := HB6.out
    clear hM hc6 hf6 hg6 hs6 HG5 HS5 HK5 HG6
    go_wp2
    clear hmk wM HMK Hi Hz hx0 hxi
    simp [bodyPost, results, Tryd.results12, go_sem, *]
    exact PDrawFirstToZone.mk q1 q2 hM17 (OwnM.later (show OwnM _ w1.heap.size N X Y S Z m cs from by (repeat with_reducible refine OwnM.far ?_ (by omega)); exact HbM.out) (Below.alloc (Below.refl _ _) (Nat.le_refl _) _)).row (trk_made (D := w1.heap.size) (B := wB.heap.size) (by simp [World.setCell]) (by omega) (by omega)) bwz
   ·have d5 : (x5 == 0) = false := beq_eq_false_iff_ne.2 e5
    have HC6 := hide (HCB.out.grown HG5.out (by omega) gw2)
    have HR6 := hide (mine_grow HRB.out HG5.out (by omega) g0)
    obtain ⟨c0, c1, c2, c3, c4, c5, c6, c7, c8, f0, f1, f2, f3, f4, f5, f6, f7, f8⟩ := HC6.out
    obtain ⟨v0, cy0, fy0⟩ := HR6.out.cells 0 (by decide)
    obtain ⟨v1, cy1, fy1⟩ := HR6.out.cells 1 (by decide)
    obtain ⟨v2, cy2, fy2⟩ := HR6.out.cells 2 (by decide)
    obtain ⟨v3, cy3, fy3⟩ := HR6.out.cells 3 (by decide)
    obtain ⟨v4, cy4, fy4⟩ := HR6.out.cells 4 (by decide)
    obtain ⟨v5, cy5, fy5⟩ := HR6.out.cells 5 (by decide)
    obtain ⟨v6, cy6, fy6⟩ := HR6.out.cells 6 (by decide)
    obtain ⟨v7, cy7, fy7⟩ := HR6.out.cells 7 (by decide)
    obtain ⟨v8, cy8, fy8⟩ := HR6.out.cells 8 (by decide)
    have HB6 := hide (below_gr HBB.out HG5.out (by omega) gl)
    have HbM := hide (HoB.out.grown HG5.out (by omega))
    have hb6 := HB6.out
    clear HG5 HS5
    go_wp2
    simp [bodyPost, results, Tryd.results12, go_sem, *]
    exact PDrawFirstToZone.mk q1 q2 hq17 (show OwnM _ w1.heap.size N X Y S Z m cs from by (repeat with_reducible refine OwnM.far ?_ (by omega)); exact HbM.out).row (show Trk _ w1.heap.size wB.heap.size _ _ from by (repeat with_reducible refine Trk.far ?_ (by omega) (by omega)); exact HK5.out) bwz
end Go.Proofs.YtgcdgdnmcdffoaaDoor
