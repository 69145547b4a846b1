/- Walks: what laws over a course, a list of tracks and a time begin with. -/
import Derived.Test.YtcmjcedlbhdihaaGreatDoorYe
import Derived.Test.YtcmjcedlbhdihaaGreatDoorYl
import Derived.Test.YtcmjcedlbhdihaaGreatDoorTm
import Derived.Test.YtcmjcedlbhdihaaGreatDoorDe
import Derived.Deep.AppendLies
import Derived.Deep.Cut
import Derived.Deep.DeepCutAuto
import Derived.Deep.CutBlock
namespace Go.Proofs.YtcmjcedlbhdihaaGreatDoor
open Go.RowKit
theorem CoB.put3 {W : World} {b : Nat} {ax ay bx bY cx cy dx dy : Int} {so : Option Addr} {n cap : Nat} {vx vy ux uy px py qx qy : Int} {so' : Option Addr} {n' cap' : Nat} (h : CoB W b ax ay bx bY cx cy dx dy so n cap) :
 CoB (((((((((W.setCell ⟨b, 0, none⟩ (.int .i64 vx)).setCell ⟨b, 1, none⟩ (.int .i64 vy)).setCell ⟨b, 2, none⟩ (.int .i64 ux)).setCell ⟨b, 3, none⟩ (.int .i64 uy)).setCell ⟨b, 4, none⟩ (.int .i64 px)).setCell ⟨b, 5, none⟩ (.int .i64 py)).setCell ⟨b, 6, none⟩ (.int .i64 qx)).setCell ⟨b, 7, none⟩ (.int .i64 qy)).setCell ⟨b, 8, none⟩ (.slice so' n' cap')) b vx vy ux uy px py qx qy so' n' cap' := by
 obtain ⟨c0, c1, c2, c3, c4, c5, c6, c7, c8, f0, f1, f2, f3, f4, f5, f6, f7, f8⟩ := h
 exact ⟨by go_simp, by go_simp, by go_simp, by go_simp, by go_simp, by go_simp, by go_simp, by go_simp, by go_simp, by go_simp, by go_simp, by go_simp, by go_simp, by go_simp, by go_simp, by go_simp, by go_simp, by go_simp⟩
/-- What DrawOrderAt returns. -/
def PDrawOrderAt (w : World) (e : Ending) (w' : World) : Prop := (∃ (ax ay bx bY cx cy dx dy : Int) (cs : Option Addr) (m mcap : Nat) (N : Nat → ByteArray) (X Y S Z : Nat → Int) (tm : Int) (so2 : Option Addr) (n2 cap2 : Nat) (A : Nat → Option Addr) (nn C : Nat → Nat) (T U V : Nat → Nat → Int), e = .returned (.tuple #[.agg #[.int .i64 ax, .int .i64 ay, .int .i64 bx, .int .i64 bY, .int .i64 cx, .int .i64 cy, .int .i64 dx, .int .i64 dy, .slice cs m mcap], .slice so2 n2 cap2, .int .i64 tm]) ∧ m ≤ 9 ∧ m ≤ mcap ∧ n2 ≤ 17 ∧ (∀ i, i < n2 → nn i ≤ 41) ∧ RowAt w' cs m 5 (v5 N X Y S Z) ∧ Trs w' so2 n2 A nn C T U V) ∧ Below w.heap.size w w'
theorem PDrawOrderAt.mk {w W' : World} {D B M : Nat} {v : Value} {ax ay bx bY cx cy dx dy tm : Int} {cs : Option Addr} {m mcap : Nat} {N : Nat → ByteArray} {X Y S Z : Nat → Int} (q1 : m ≤ 9) (q2 : m ≤ mcap) (hM : M ≤ 17) (ho : RowAt W' cs m 5 (v5 N X Y S Z)) (hT : Trk W' D B v M) (hb : Below w.heap.size w W') :
 PDrawOrderAt w (.returned (.tuple #[.agg #[.int .i64 ax, .int .i64 ay, .int .i64 bx, .int .i64 bY, .int .i64 cx, .int .i64 cy, .int .i64 dx, .int .i64 dy, .slice cs m mcap], v, .int .i64 tm])) W' := by
 obtain ⟨so2, cap2, A, nn, C, T, U, V, rfl, h1, h2⟩ := hT.read
 exact ⟨⟨_, _, _, _, _, _, _, _, cs, m, mcap, N, X, Y, S, Z, tm, so2, M, cap2, A, nn, C, T, U, V, rfl, q1, q2, hM, h2, ho, h1⟩, hb⟩
set_option maxRecDepth 100000 in
set_option maxHeartbeats 16000000 in
theorem spec_DrawOrderAt (so : Option Addr) (n cap : Nat) (B : Nat → Int) (w : World) (h : RowAt w so n 1 (vb B)) (hB : ∀ i, 0 ≤ B i ∧ B i ≤ 255) (hn : n ≤ 1048576) :
 Calls Tryz.prog 5 #[.slice so n cap] w (PDrawOrderAt w) := by
 obtain ⟨i0, hi, hz0, hz1, hz2⟩ := info_parts infoTrk
 have HMK := hide (fun (M : Nat) (hM : M ≤ 1000) W => run_make_rowN (P := Tryz.prog) 31 43 i0 _ Tryz.underlying31 hi hz0 M (by rw [hz2]; omega) (by omega) W)
 have Hi := hide hi
 have Hz := hide (And.intro hz0 (And.intro hz1 hz2))
 clear hi hz0 hz1 hz2
 go_enter Tryz.func5, Tryz.ntmps5
 go_wp2_with fail; (with_reducible refine (spec_l01From so n cap B _ (RowAt.later bwz h) hB hn).mono ?_); rintro e w1 ⟨rfl, hs1, hb1⟩
 simp only [size_al] at hs1
 have hz1 := hb1.size
 simp only [size_al] at hz1
 have HR0 := hide (Mine.later hb1 (mine_make (w := w) (c := #[.int .i64 0, .int .i64 0, .int .i64 0, .int .i64 0, .int .i64 0, .int .i64 0, .int .i64 0, .int .i64 0, .slice none 0 0]) (t := 30) (m := 9) rfl))
 have HB1 := hide (show Below w.heap.size w w1 from bwz)
 clear hb1 h hB hn
 obtain ⟨g, hg⟩ : ∃ g, g = w.heap.size + 1 := ⟨_, rfl⟩
 simp only [size_al]
 rw [← hg] at hs1 ⊢
 have gl : w.heap.size ≤ g := by omega
 have g0 : ¬ w.heap.size = g := by omega
 have g0' : ¬ g = w.heap.size := by omega
 have zw0 : w.heap.size < w1.heap.size := by omega
 have lg0 := Src.lt hs1
 clear hg
 go_wp2_with fail; (with_reducible refine (spec_l04Draw g _ hs1).mono ?_); rintro e w2 ⟨⟨ax, ay, bx, bY, cx, cy, dx, dy, cs, m, mcap, N, X, Y, S, Z, rfl, q0, q1, q2, hA, ho⟩, hg2, hs2⟩; have hc2 := gcell hg2; have hf2 := gfroz hg2; have lg2 := Src.lt hs2; have nga2 : ¬ w2.heap.size = g := (by omega); have ngb2 : ¬ g = w2.heap.size := (by omega); have hzs2 := hg2.size; (try simp at hzs2); have zx2_0 : w.heap.size < w2.heap.size := (by first | omega | (simp at hzs2; omega)); have zy2_0 : w.heap.size < w2.heap.size + 1 := (by omega); have zw2_0 : ¬ w2.heap.size = w.heap.size := (by omega); have zv2_0 : ¬ w.heap.size = w2.heap.size := (by omega); have zu2_0 : w.heap.size < w2.heap.size + 1 + 1 := (by omega); have zt2_0 : ¬ w2.heap.size + 1 = w.heap.size := (by omega); have zr2_0 : ¬ w.heap.size = w2.heap.size + 1 := (by omega)
 have HO := hide ho
 have hzz2 := hg2.size
 have HB2 := hide (below_gr HB1.out hg2 (by omega) gl)
 have HR2 := hide (mine_grow HR0.out hg2 zw0 g0)
 clear ho hA hc2 hf2 hg2 HR0 HB1
 go_upto_region 3 with fail
 obtain ⟨wB, hB9⟩ : ∃ W, W = w2.alloc (.cells #[.int .i64 ax, .int .i64 ay, .int .i64 bx, .int .i64 bY, .int .i64 cx, .int .i64 cy, .int .i64 dx, .int .i64 dy, .slice cs m mcap] 30) := ⟨_, rfl⟩
 have szB : wB.heap.size ≤ w2.heap.size + 1 := by rw [hB9]; simp
 have szC : w2.heap.size + 1 ≤ wB.heap.size := by rw [hB9]; simp
 have sB : Src wB g := by rw [hB9]; exact swz
 have HBB := hide (show Below w.heap.size w wB by rw [hB9]; exact Below.alloc HB2.out (by omega) _)
 have HoB := hide (show OwnM wB w1.heap.size N X Y S Z m cs by rw [hB9]; exact HO.out.later (Below.alloc (Below.refl _ _) (Nat.le_refl _) _))
 have HCB := hide (show CoB wB w2.heap.size ax ay bx bY cx cy dx dy cs m mcap by rw [hB9]; exact ⟨by go_simp, by go_simp, by go_simp, by go_simp, by go_simp, by go_simp, by go_simp, by go_simp, by go_simp, by go_simp, by go_simp, by go_simp, by go_simp, by go_simp, by go_simp, by go_simp, by go_simp, by go_simp⟩)
 have HRB := hide (show Mine wB w.heap.size 9 by rw [hB9]; exact Mine.later (Below.alloc (Below.refl _ _) (Nat.le_refl _) _) HR2.out)
 rw [← hB9]
 clear hB9
 clear hs2 HO HB2 HR2
 have HK0 := hide (Trk.nil (w := wB) (D := wB.heap.size) (B := wB.heap.size) (Nat.le_refl _))
 go_wp2_with fail; (with_reducible refine (spec_l01NextN g 6 6 _ (Src.alloc sB _) (by decide) (by decide) (by decide)).mono ?_); rintro e w3 ⟨⟨x3, rfl, hx3⟩, hg3, hs3⟩; have hc3 := gcell hg3; have hf3 := gfroz hg3; have lg3 := Src.lt hs3; have nga3 : ¬ w3.heap.size = g := (by omega); have ngb3 : ¬ g = w3.heap.size := (by omega); have hzs3 := hg3.size; (try simp at hzs3); have zx3_0 : w.heap.size < w3.heap.size := (by first | omega | (simp at hzs3; omega)); have zy3_0 : w.heap.size < w3.heap.size + 1 := (by omega); have zw3_0 : ¬ w3.heap.size = w.heap.size := (by omega); have zv3_0 : ¬ w.heap.size = w3.heap.size := (by omega); have zu3_0 : w.heap.size < w3.heap.size + 1 + 1 := (by omega); have zt3_0 : ¬ w3.heap.size + 1 = w.heap.size := (by omega); have zr3_0 : ¬ w.heap.size = w3.heap.size + 1 := (by omega); have zx3_1 : w2.heap.size < w3.heap.size := (by first | omega | (simp at hzs3; omega)); have zy3_1 : w2.heap.size < w3.heap.size + 1 := (by omega); have zw3_1 : ¬ w3.heap.size = w2.heap.size := (by omega); have zv3_1 : ¬ w2.heap.size = w3.heap.size := (by omega); have zu3_1 : w2.heap.size < w3.heap.size + 1 + 1 := (by omega); have zt3_1 : ¬ w3.heap.size + 1 = w2.heap.size := (by omega); have zr3_1 : ¬ w2.heap.size = w3.heap.size + 1 := (by omega)
 have hzz3 := hg3.size
 simp only [size_al] at hzz3
 have HK3 := hide (HK0.out.grown hg3 (by omega) (by omega))
 have HG3 := hide (gr_step (World.grownBy_alloc wB (.cells #[] 43) (some g)) hg3)
 have HS3 := hide hs3
 clear hc3 hf3 hg3 hs3 HK0 sB
 go_wp2
 go_loopw [7, 8] (fun v i wr => ∃ q x xo cp : Nat, q + x ≤ 6 ∧ i = .int .i64 (x : Int) ∧ v = .slice (some ⟨xo, 0, none⟩) q cp ∧ Hid (Trk wr wB.heap.size wB.heap.size (.slice (some ⟨xo, 0, none⟩) q cp) q) ∧ Hid (Src wr g) ∧ Hid (wB.grownBy wr (some g))) (fun _ i _ => (intOf i).toNat)
 case atStart => exact ⟨0, x3, wB.heap.size, 0, by omega, rfl, rfl, HK3, HS3, HG3⟩
 case round =>
  clear HK3 HS3 HG3 hx3 zx3_0 zx3_1 zy3_0 zy3_1
  obtain ⟨q, x, xo, cp, hqx, rfl, rfl, HK, HS, HG⟩ := hrel
  have zr := HG.out.size
  obtain ⟨zx0, zx1⟩ := HK.out.at
  have lgr := Src.lt HS.out
  have gw2 : ¬ w2.heap.size = g := by omega
  have HC := hide (HCB.out.grown HG.out (by omega) gw2)
  by_cases hx0 : 0 < x
  ·have hxi : (0 : Int) < (x : Int) := by omega
   obtain ⟨y, hy⟩ : ∃ y, y = x - 1 := ⟨_, rfl⟩
   have wy : IntKind.i64.wrap ((x : Int) - 1) = (y : Int) := by rw [IntWalk.i64_in _ (by omega)]; omega
   have hy1 : y + 1 ≤ x := by omega
   have hy2 : x ≤ y + 1 := by omega
   clear hy
   obtain ⟨c0, c1, c2, c3, c4, c5, c6, c7, c8, f0, f1, f2, f3, f4, f5, f6, f7, f8⟩ := HC.out
   go_wp2_with fail; (with_reducible refine (spec_l06DrawSail ax ay bx bY cx cy dx dy cs m mcap N X Y S Z g _ HS.out (fun W hg => (HoB.out.grown (gr_step HG.out hg) (by omega)).row) (by omega)).mono ?_); rintro e w4 ⟨⟨so5, n5, cap5, L5, rfl, u1, u2, u3, ho5⟩, hg4, hs4⟩; have hc4 := gcell hg4; have hf4 := gfroz hg4; have lg4 := Src.lt hs4; have nga4 : ¬ w4.heap.size = g := (by omega); have ngb4 : ¬ g = w4.heap.size := (by omega); have hzs4 := hg4.size; (try simp at hzs4); have zx4_0 : w.heap.size < w4.heap.size := (by first | omega | (simp at hzs4; omega)); have zy4_0 : w.heap.size < w4.heap.size + 1 := (by omega); have zw4_0 : ¬ w4.heap.size = w.heap.size := (by omega); have zv4_0 : ¬ w.heap.size = w4.heap.size := (by omega); have zu4_0 : w.heap.size < w4.heap.size + 1 + 1 := (by omega); have zt4_0 : ¬ w4.heap.size + 1 = w.heap.size := (by omega); have zr4_0 : ¬ w.heap.size = w4.heap.size + 1 := (by omega); have zx4_1 : w2.heap.size < w4.heap.size := (by first | omega | (simp at hzs4; omega)); have zy4_1 : w2.heap.size < w4.heap.size + 1 := (by omega); have zw4_1 : ¬ w4.heap.size = w2.heap.size := (by omega); have zv4_1 : ¬ w2.heap.size = w4.heap.size := (by omega); have zu4_1 : w2.heap.size < w4.heap.size + 1 + 1 := (by omega); have zt4_1 : ¬ w4.heap.size + 1 = w2.heap.size := (by omega); have zr4_1 : ¬ w2.heap.size = w4.heap.size + 1 := (by omega); have zx4_2 : xo < w4.heap.size := (by first | omega | (simp at hzs4; omega)); have zy4_2 : xo < w4.heap.size + 1 := (by omega); have zw4_2 : ¬ w4.heap.size = xo := (by omega); have zv4_2 : ¬ xo = w4.heap.size := (by omega); have zu4_2 : xo < w4.heap.size + 1 + 1 := (by omega); have zt4_2 : ¬ w4.heap.size + 1 = xo := (by omega); have zr4_2 : ¬ xo = w4.heap.size + 1 := (by omega)
   have hzA := hg4.size
   have HK4 := hide (HK.out.grown hg4 (by omega) (by omega))
   have HG4 := hide (gr_step HG.out hg4)
   have HS4 := hide hs4
   obtain ⟨A1, nn1, C1, L1, h1, h2⟩ := HK4.out
   have HOw := hide h1
   have HH2 := hide h2
   have hr5 := ho5.mono (show (40000 : Int) ≤ 2000000000 by decide) (show wB.heap.size ≤ _ by omega)
   have HR5 := hide hr5
   have hl5 : ∀ b, so5 = some ⟨b, 0, none⟩ → b ≠ xo := fun b e => by have := own_blk ho5 e; omega
   have HL5 := hide hl5
   clear h1 h2 ho5 hr5 hl5 HK4 hc4 hf4 hg4 hs4 c0 c1 c2 c3 c4 c5 c6 c7 c8 f0 f1 f2 f3 f4 f5 f6 f7 f8
   go_wp2_with (at_builtin; refine wpList_append_lies _ rfl _ _ 31 rfl wB.heap.size 43 i0 _ 1 24 Tryz.underlying31 Hi.out Hz.out.1 Hz.out.2.1 Hz.out.2.2 rfl (by decide) _ _ _ rfl (HOw.out.alloc _) ⟨w4.heap.size, 0, none⟩ 1 1 [.slice so5 n5 cap5] rfl rfl new1 (oneT _ _ _) (by decide) (by unfold maxLen; omega) (by omega) (by simp; omega) (w4.heap.size + 1) (by simp) ?_)
   intro g' cap' wA hown' hgr hat hlt'
   have hgr2 : (w4.alloc (.cells #[.slice so5 n5 cap5] 43)).grownBy wA (some xo) := hgr
   have hb := below_grown HOw.out (by omega) hgr
   have hsA := World.grownBy.size hgr
   simp only [size_al] at hsA
   have hat2 : g' = xo ∨ (w4.alloc (.cells #[.slice so5 n5 cap5] 43)).heap.size ≤ g' := hat.imp (fun e => by simp only [Value.ownBlock, Option.some.injEq] at e; exact e.symm) (fun e => by simp; omega)
   have hal := Below.alloc (Below.refl w4.heap.size w4) (Nat.le_refl _) (.cells #[.slice so5 n5 cap5] 43)
   have HKA := hide (Trk.app (w := w4.alloc (.cells #[.slice so5 n5 cap5] 43)) (fun i hi => ⟨(HH2.out i hi).1, (HH2.out i hi).2.1, (HH2.out i hi).2.2.1.later hal, fun b e => ⟨by simp; have := ((HH2.out i hi).2.2.2 b e).1; omega, ((HH2.out i hi).2.2.2 b e).2⟩⟩) (by omega) u3 (HR5.out.later hal) HL5.out hown' hgr2 hat2)
   have HSA := hide (Src.keepB (hb.mono (by omega)) HS4.out)
   have HGA := hide (gr_belowB HG4.out hb)
   have zgA : w2.heap.size < wA.heap.size := by omega
   have zxA : xo < wA.heap.size := by omega
   clear hal hgr hgr2 hown' hb hat hat2 HOw HH2 HR5 HL5 HS4 HG4 u1 u2 u3
   go_wp2
   go_roundw
   case rel => exact ⟨q + 1, y, g', cap', by omega, rfl, rfl, HKA, HSA, HGA⟩
   case measure => simp [intOf]; omega
  ·have hxi : ¬ (0 : Int) < (x : Int) := by omega
   go_wp2_with fail; (with_reducible refine (spec_l01NextN g 24 24 _ HS.out (by decide) (by decide) (by decide)).mono ?_); rintro e w5 ⟨⟨x5, rfl, hx5⟩, hg5, hs5⟩; have hc5 := gcell hg5; have hf5 := gfroz hg5; have lg5 := Src.lt hs5; have nga5 : ¬ w5.heap.size = g := (by omega); have ngb5 : ¬ g = w5.heap.size := (by omega); have hzs5 := hg5.size; (try simp at hzs5); have zx5_0 : w.heap.size < w5.heap.size := (by first | omega | (simp at hzs5; omega)); have zy5_0 : w.heap.size < w5.heap.size + 1 := (by omega); have zw5_0 : ¬ w5.heap.size = w.heap.size := (by omega); have zv5_0 : ¬ w.heap.size = w5.heap.size := (by omega); have zu5_0 : w.heap.size < w5.heap.size + 1 + 1 := (by omega); have zt5_0 : ¬ w5.heap.size + 1 = w.heap.size := (by omega); have zr5_0 : ¬ w.heap.size = w5.heap.size + 1 := (by omega); have zx5_1 : w2.heap.size < w5.heap.size := (by first | omega | (simp at hzs5; omega)); have zy5_1 : w2.heap.size < w5.heap.size + 1 := (by omega); have zw5_1 : ¬ w5.heap.size = w2.heap.size := (by omega); have zv5_1 : ¬ w2.heap.size = w5.heap.size := (by omega); have zu5_1 : w2.heap.size < w5.heap.size + 1 + 1 := (by omega); have zt5_1 : ¬ w5.heap.size + 1 = w2.heap.size := (by omega); have zr5_1 : ¬ w2.heap.size = w5.heap.size + 1 := (by omega); have zx5_2 : xo < w5.heap.size := (by first | omega | (simp at hzs5; omega)); have zy5_2 : xo < w5.heap.size + 1 := (by omega); have zw5_2 : ¬ w5.heap.size = xo := (by omega); have zv5_2 : ¬ xo = w5.heap.size := (by omega); have zu5_2 : xo < w5.heap.size + 1 + 1 := (by omega); have zt5_2 : ¬ w5.heap.size + 1 = xo := (by omega); have zr5_2 : ¬ xo = w5.heap.size + 1 := (by omega)
   have hzz5 := hg5.size
   have HK5 := hide (HK.out.grown hg5 (by omega) (by omega))
   have HG5 := hide (gr_step HG.out hg5)
   have HS5 := hide hs5
   clear hc5 hf5 hg5 hs5 HK HS HG HC
   go_upto_block 2 with fail
   go_cut [7] (fun v W => ∃ (ax ay bx bY cx cy dx dy : Int) (cs : Option Addr) (m mcap : Nat) (N : Nat → ByteArray) (X Y S Z : Nat → Int) (q xo cp : Nat), m ≤ 9 ∧ m ≤ mcap ∧ q ≤ 17 ∧ v = .slice (some ⟨xo, 0, none⟩) q cp ∧ Hid (Trk W wB.heap.size wB.heap.size (.slice (some ⟨xo, 0, none⟩) q cp) q) ∧ Hid (CoB W w2.heap.size ax ay bx bY cx cy dx dy cs m mcap) ∧ Hid (OwnM W w1.heap.size N X Y S Z m cs) ∧ Hid (Mine W w.heap.size 9) ∧ Hid (Src W g) ∧ Hid (Below w.heap.size w W) ∧ wB.heap.size ≤ W.heap.size)
   case first =>
    by_cases e0 : x5 = 0
    ·subst e0
     go_wp2_with fail; (with_reducible refine (spec_l03DrawAny g _ HS5.out).mono ?_); rintro e w6 ⟨⟨so5, n5, cap5, L5, rfl, u1, u2, u3, ho5⟩, hg6, hs6⟩; have hc6 := gcell hg6; have hf6 := gfroz hg6; have lg6 := Src.lt hs6; have nga6 : ¬ w6.heap.size = g := (by omega); have ngb6 : ¬ g = w6.heap.size := (by omega); have hzs6 := hg6.size; (try simp at hzs6); have zx6_0 : w.heap.size < w6.heap.size := (by first | omega | (simp at hzs6; omega)); have zy6_0 : w.heap.size < w6.heap.size + 1 := (by omega); have zw6_0 : ¬ w6.heap.size = w.heap.size := (by omega); have zv6_0 : ¬ w.heap.size = w6.heap.size := (by omega); have zu6_0 : w.heap.size < w6.heap.size + 1 + 1 := (by omega); have zt6_0 : ¬ w6.heap.size + 1 = w.heap.size := (by omega); have zr6_0 : ¬ w.heap.size = w6.heap.size + 1 := (by omega); have zx6_1 : w2.heap.size < w6.heap.size := (by first | omega | (simp at hzs6; omega)); have zy6_1 : w2.heap.size < w6.heap.size + 1 := (by omega); have zw6_1 : ¬ w6.heap.size = w2.heap.size := (by omega); have zv6_1 : ¬ w2.heap.size = w6.heap.size := (by omega); have zu6_1 : w2.heap.size < w6.heap.size + 1 + 1 := (by omega); have zt6_1 : ¬ w6.heap.size + 1 = w2.heap.size := (by omega); have zr6_1 : ¬ w2.heap.size = w6.heap.size + 1 := (by omega); have zx6_2 : xo < w6.heap.size := (by first | omega | (simp at hzs6; omega)); have zy6_2 : xo < w6.heap.size + 1 := (by omega); have zw6_2 : ¬ w6.heap.size = xo := (by omega); have zv6_2 : ¬ xo = w6.heap.size := (by omega); have zu6_2 : xo < w6.heap.size + 1 + 1 := (by omega); have zt6_2 : ¬ w6.heap.size + 1 = xo := (by omega); have zr6_2 : ¬ xo = w6.heap.size + 1 := (by omega)
     have hzA := hg6.size
     have HK4 := hide (HK5.out.grown hg6 (by omega) (by omega))
     have HG4 := hide (gr_step HG5.out hg6)
     have HS4 := hide hs6
     obtain ⟨A1, nn1, C1, L1, h1, h2⟩ := HK4.out
     have HOw := hide h1
     have HH2 := hide h2
     have hr5 := ho5.mono (show (2000000000 : Int) ≤ 2000000000 by decide) (show wB.heap.size ≤ _ by omega)
     have HR5 := hide hr5
     have hl5 : ∀ b, so5 = some ⟨b, 0, none⟩ → b ≠ xo := fun b e => by have := own_blk ho5 e; omega
     have HL5 := hide hl5
     clear h1 h2 ho5 hr5 hl5 HK4 hc6 hf6 hg6 hs6 
     go_wp2_with (at_builtin; refine wpList_append_lies _ rfl _ _ 31 rfl wB.heap.size 43 i0 _ 1 24 Tryz.underlying31 Hi.out Hz.out.1 Hz.out.2.1 Hz.out.2.2 rfl (by decide) _ _ _ rfl (HOw.out.alloc _) ⟨w6.heap.size, 0, none⟩ 1 1 [.slice so5 n5 cap5] rfl rfl new1 (oneT _ _ _) (by decide) (by unfold maxLen; omega) (by omega) (by simp; omega) (w6.heap.size + 1) (by simp) ?_)
     intro g' cap' wA hown' hgr hat hlt'
     have hgr2 : (w6.alloc (.cells #[.slice so5 n5 cap5] 43)).grownBy wA (some xo) := hgr
     have hb := below_grown HOw.out (by omega) hgr
     have hsA := World.grownBy.size hgr
     simp only [size_al] at hsA
     have hat2 : g' = xo ∨ (w6.alloc (.cells #[.slice so5 n5 cap5] 43)).heap.size ≤ g' := hat.imp (fun e => by simp only [Value.ownBlock, Option.some.injEq] at e; exact e.symm) (fun e => by simp; omega)
     have hal := Below.alloc (Below.refl w6.heap.size w6) (Nat.le_refl _) (.cells #[.slice so5 n5 cap5] 43)
     have HKA := hide (Trk.app (w := w6.alloc (.cells #[.slice so5 n5 cap5] 43)) (fun i hi => ⟨(HH2.out i hi).1, (HH2.out i hi).2.1, (HH2.out i hi).2.2.1.later hal, fun b e => ⟨by simp; have := ((HH2.out i hi).2.2.2 b e).1; omega, ((HH2.out i hi).2.2.2 b e).2⟩⟩) (by omega) u3 (HR5.out.later hal) HL5.out hown' hgr2 hat2)
     have HSA := hide (Src.keepB (hb.mono (by omega)) HS4.out)
     have HGA := hide (gr_belowB HG4.out hb)
     have zgA : w2.heap.size < wA.heap.size := by omega
     have zxA : xo < wA.heap.size := by omega
     clear hal hgr hgr2 hown' hb hat hat2 HOw HH2 HR5 HL5 HS4 HG4 u1 u2 u3
     go_wp2_with fail
     go_meet
     exact ⟨ax, ay, bx, bY, cx, cy, dx, dy, cs, m, mcap, N, X, Y, S, Z, q + 1, g', cap', by omega, q2, by omega, rfl, HKA, hide (HCB.out.grown HGA.out (by omega) gw2), hide (HoB.out.grown HGA.out (by omega)), hide (mine_grow HRB.out HGA.out (by omega) g0), HSA, hide (below_gr HBB.out HGA.out (by omega) gl), HGA.out.size⟩
    have d0 : (x5 == 0) = false := beq_eq_false_iff_ne.2 e0
    by_cases e1 : x5 = 1
    ·subst e1
     go_wp2_with fail; (with_reducible refine (spec_l01NextN g 2 2 _ HS5.out (by decide) (by decide) (by decide)).mono ?_); rintro e w6 ⟨⟨x6, rfl, hx6⟩, hg6, hs6⟩; have hc6 := gcell hg6; have hf6 := gfroz hg6; have lg6 := Src.lt hs6; have nga6 : ¬ w6.heap.size = g := (by omega); have ngb6 : ¬ g = w6.heap.size := (by omega); have hzs6 := hg6.size; (try simp at hzs6); have zx6_0 : w.heap.size < w6.heap.size := (by first | omega | (simp at hzs6; omega)); have zy6_0 : w.heap.size < w6.heap.size + 1 := (by omega); have zw6_0 : ¬ w6.heap.size = w.heap.size := (by omega); have zv6_0 : ¬ w.heap.size = w6.heap.size := (by omega); have zu6_0 : w.heap.size < w6.heap.size + 1 + 1 := (by omega); have zt6_0 : ¬ w6.heap.size + 1 = w.heap.size := (by omega); have zr6_0 : ¬ w.heap.size = w6.heap.size + 1 := (by omega); have zx6_1 : w2.heap.size < w6.heap.size := (by first | omega | (simp at hzs6; omega)); have zy6_1 : w2.heap.size < w6.heap.size + 1 := (by omega); have zw6_1 : ¬ w6.heap.size = w2.heap.size := (by omega); have zv6_1 : ¬ w2.heap.size = w6.heap.size := (by omega); have zu6_1 : w2.heap.size < w6.heap.size + 1 + 1 := (by omega); have zt6_1 : ¬ w6.heap.size + 1 = w2.heap.size := (by omega); have zr6_1 : ¬ w2.heap.size = w6.heap.size + 1 := (by omega); have zx6_2 : xo < w6.heap.size := (by first | omega | (simp at hzs6; omega)); have zy6_2 : xo < w6.heap.size + 1 := (by omega); have zw6_2 : ¬ w6.heap.size = xo := (by omega); have zv6_2 : ¬ xo = w6.heap.size := (by omega); have zu6_2 : xo < w6.heap.size + 1 + 1 := (by omega); have zt6_2 : ¬ w6.heap.size + 1 = xo := (by omega); have zr6_2 : ¬ xo = w6.heap.size + 1 := (by omega)
     have hzz6 := hg6.size
     have HG6 := hide (gr_step HG5.out hg6)
     have HS6 := hide hs6
     obtain ⟨M, hM⟩ : ∃ M, M = 16 + x6 := ⟨_, rfl⟩
     have wM : IntKind.i64.wrap (16 + (x6 : Int)) = (M : Int) := by rw [IntWalk.i64_in _ (by omega)]; omega
     have hmk := HMK.out M (by omega)
     rw [Hz.out.2.1] at hmk
     have hM17 : M ≤ 17 := by omega
     have hKm := hide (Trk.made (w := w6) (D := wB.heap.size) (B := wB.heap.size) (m := M) (by omega) (by omega))
     have HGM := hide (gr_alloc HG6.out (.cells (madeCells #[.slice none 0 0] M) 43))
     clear hM hc6 hf6 hg6 hs6 HG5 HS5 HK5 HG6
     go_wp2_with fail
     go_meet
     exact ⟨ax, ay, bx, bY, cx, cy, dx, dy, cs, m, mcap, N, X, Y, S, Z, M, w6.heap.size, M, by omega, q2, hM17, rfl, hKm, hide (HCB.out.grown HGM.out (by omega) gw2), hide (HoB.out.grown HGM.out (by omega)), hide (mine_grow HRB.out HGM.out (by omega) g0), hide (Src.alloc HS6.out _), hide (below_gr HBB.out HGM.out (by omega) gl), HGM.out.size⟩
    have d1 : (x5 == 1) = false := beq_eq_false_iff_ne.2 e1
    by_cases e2 : x5 = 2
    ·subst e2
     go_wp2_with fail; (with_reducible refine (spec_l04DrawAny g _ HS5.out).mono ?_); rintro e w6 ⟨⟨ax9, ay9, bx9, bY9, cx9, cy9, dx9, dy9, so9, n9, cap9, N9, X9, Y9, S9, Z9, rfl, u1', u2', u3', uA, ho9⟩, hg6, hs6⟩; have hc6 := gcell hg6; have hf6 := gfroz hg6; have lg6 := Src.lt hs6; have nga6 : ¬ w6.heap.size = g := (by omega); have ngb6 : ¬ g = w6.heap.size := (by omega); have hzs6 := hg6.size; (try simp at hzs6); have zx6_0 : w.heap.size < w6.heap.size := (by first | omega | (simp at hzs6; omega)); have zy6_0 : w.heap.size < w6.heap.size + 1 := (by omega); have zw6_0 : ¬ w6.heap.size = w.heap.size := (by omega); have zv6_0 : ¬ w.heap.size = w6.heap.size := (by omega); have zu6_0 : w.heap.size < w6.heap.size + 1 + 1 := (by omega); have zt6_0 : ¬ w6.heap.size + 1 = w.heap.size := (by omega); have zr6_0 : ¬ w.heap.size = w6.heap.size + 1 := (by omega); have zx6_1 : w2.heap.size < w6.heap.size := (by first | omega | (simp at hzs6; omega)); have zy6_1 : w2.heap.size < w6.heap.size + 1 := (by omega); have zw6_1 : ¬ w6.heap.size = w2.heap.size := (by omega); have zv6_1 : ¬ w2.heap.size = w6.heap.size := (by omega); have zu6_1 : w2.heap.size < w6.heap.size + 1 + 1 := (by omega); have zt6_1 : ¬ w6.heap.size + 1 = w2.heap.size := (by omega); have zr6_1 : ¬ w2.heap.size = w6.heap.size + 1 := (by omega); have zx6_2 : xo < w6.heap.size := (by first | omega | (simp at hzs6; omega)); have zy6_2 : xo < w6.heap.size + 1 := (by omega); have zw6_2 : ¬ w6.heap.size = xo := (by omega); have zv6_2 : ¬ xo = w6.heap.size := (by omega); have zu6_2 : xo < w6.heap.size + 1 + 1 := (by omega); have zt6_2 : ¬ w6.heap.size + 1 = xo := (by omega); have zr6_2 : ¬ xo = w6.heap.size + 1 := (by omega)
     have hzz6 := hg6.size
     have HG6 := hide (gr_step HG5.out hg6)
     have HS6 := hide hs6
     have HK6 := hide (HK5.out.grown hg6 (by omega) (by omega))
     have HO6 := hide ho9
     have HC6 := hide (HCB.out.grown HG6.out (by omega) gw2)
     have HR6 := hide (mine_grow HRB.out HG6.out (by omega) g0)
     have HB6 := hide (below_gr HBB.out HG6.out (by omega) gl)
     obtain ⟨c0, c1, c2, c3, c4, c5, c6, c7, c8, f0, f1, f2, f3, f4, f5, f6, f7, f8⟩ := HC6.out
     clear hc6 hf6 hg6 hs6 ho9 HG5 HS5 HK5
     go_wp2_with fail
     go_meet
     obtain ⟨wZ, hZ⟩ : ∃ x, x = ((((((((w6.setCell ⟨w2.heap.size, 0, none⟩ (.int .i64 ax9)).setCell ⟨w2.heap.size, 1, none⟩ (.int .i64 ay9)).setCell ⟨w2.heap.size, 2, none⟩ (.int .i64 bx9)).setCell ⟨w2.heap.size, 3, none⟩ (.int .i64 bY9)).setCell ⟨w2.heap.size, 4, none⟩ (.int .i64 cx9)).setCell ⟨w2.heap.size, 5, none⟩ (.int .i64 cy9)).setCell ⟨w2.heap.size, 6, none⟩ (.int .i64 dx9)).setCell ⟨w2.heap.size, 7, none⟩ (.int .i64 dy9)).setCell ⟨w2.heap.size, 8, none⟩ (.slice so9 n9 cap9) := ⟨_, rfl⟩
     have HCZ := hide (show CoB wZ w2.heap.size ax9 ay9 bx9 bY9 cx9 cy9 dx9 dy9 so9 n9 cap9 by rw [hZ]; exact HC6.out.put3)
     have HKZ := hide (show Trk wZ wB.heap.size wB.heap.size (.slice (some ⟨xo, 0, none⟩) q cp) q by rw [hZ]; (repeat with_reducible refine Trk.far ?_ (by omega) (by omega)); exact HK6.out)
     have HOZ := hide (show OwnM wZ w5.heap.size N9 X9 Y9 S9 Z9 n9 so9 by rw [hZ]; (repeat with_reducible refine OwnM.far ?_ (by omega)); exact HO6.out)
     have HRZ := hide (show Mine wZ w.heap.size 9 by rw [hZ]; (repeat with_reducible refine Mine.set ?_); exact HR6.out)
     have hs6 := HS6.out
     have hb6 := HB6.out
     have HSZ := hide (show Src wZ g by rw [hZ]; exact swz)
     have HBZ := hide (show Below w.heap.size w wZ by rw [hZ]; exact bwz)
     have zZ : wB.heap.size ≤ wZ.heap.size := by rw [hZ]; simp [World.setCell]; omega
     rw [← hZ]
     clear hZ hs6 hb6
     exact ⟨ax9, ay9, bx9, bY9, cx9, cy9, dx9, dy9, so9, n9, cap9, N9, X9, Y9, S9, Z9, q, xo, cp, u2', u3', by omega, rfl, HKZ, HCZ, hide (HOZ.out.mono (by omega)), HRZ, HSZ, HBZ, zZ⟩
    have d2 : (x5 == 2) = false := beq_eq_false_iff_ne.2 e2
    go_wp2_with fail
    go_meet
    exact ⟨ax, ay, bx, bY, cx, cy, dx, dy, cs, m, mcap, N, X, Y, S, Z, q, xo, cp, by omega, q2, by omega, rfl, HK5, hide (HCB.out.grown HG5.out (by omega) gw2), hide (HoB.out.grown HG5.out (by omega)), hide (mine_grow HRB.out HG5.out (by omega) g0), HS5, hide (below_gr HBB.out HG5.out (by omega) gl), HG5.out.size⟩
   case rest =>
    clear HK5 HG5 HS5 HoB HBB HRB HCB q0 q1 q2
    obtain ⟨ax, ay, bx, bY, cx, cy, dx, dy, cs, m, mcap, N, X, Y, S, Z, q, xo, cp, qm9, qmc, q17, rfl, HKE, HCE, HOE, HRE, HSE, HBE, zc⟩ := hcut
    obtain ⟨wE, rfl⟩ : ∃ x : World, x = wc := ⟨_, rfl⟩
    obtain ⟨c0, c1, c2, c3, c4, c5, c6, c7, c8, f0, f1, f2, f3, f4, f5, f6, f7, f8⟩ := HCE.out
    obtain ⟨v0, cy0, fy0⟩ := HRE.out.cells 0 (by decide)
    obtain ⟨v1, cy1, fy1⟩ := HRE.out.cells 1 (by decide)
    obtain ⟨v2, cy2, fy2⟩ := HRE.out.cells 2 (by decide)
    obtain ⟨v3, cy3, fy3⟩ := HRE.out.cells 3 (by decide)
    obtain ⟨v4, cy4, fy4⟩ := HRE.out.cells 4 (by decide)
    obtain ⟨v5, cy5, fy5⟩ := HRE.out.cells 5 (by decide)
    obtain ⟨v6, cy6, fy6⟩ := HRE.out.cells 6 (by decide)
    obtain ⟨v7, cy7, fy7⟩ := HRE.out.cells 7 (by decide)
    obtain ⟨v8, cy8, fy8⟩ := HRE.out.cells 8 (by decide)
    have sE := HSE.out
    have zb0 : w.heap.size < wE.heap.size := by omega
    have zb2 : w2.heap.size < wE.heap.size := by omega
    have hgE := World.grownBy.refl wE (some g)
    go_upto_region 15 with fail
    have HwE : World.grownBy wE wE (some g) := gwz
    have HcE0 : World.cell? wE ⟨w2.heap.size, 0, none⟩ = some (.int .i64 ax) := (by go_simp)
    have HcE1 : World.cell? wE ⟨w2.heap.size, 1, none⟩ = some (.int .i64 ay) := (by go_simp)
    have HcE2 : World.cell? wE ⟨w2.heap.size, 2, none⟩ = some (.int .i64 bx) := (by go_simp)
    have HcE3 : World.cell? wE ⟨w2.heap.size, 3, none⟩ = some (.int .i64 bY) := (by go_simp)
    have HcE4 : World.cell? wE ⟨w2.heap.size, 4, none⟩ = some (.int .i64 cx) := (by go_simp)
    have HcE5 : World.cell? wE ⟨w2.heap.size, 5, none⟩ = some (.int .i64 cy) := (by go_simp)
    have HcE6 : World.cell? wE ⟨w2.heap.size, 6, none⟩ = some (.int .i64 dx) := (by go_simp)
    have HcE7 : World.cell? wE ⟨w2.heap.size, 7, none⟩ = some (.int .i64 dy) := (by go_simp)
    have HcE8 : World.cell? wE ⟨w2.heap.size, 8, none⟩ = some (.slice cs m mcap) := (by go_simp)
    refine wp_region_held_drew (S := fun W => W.cell? ⟨w2.heap.size, 0, none⟩ = some (.int .i64 ax) ∧ W.cell? ⟨w2.heap.size, 1, none⟩ = some (.int .i64 ay) ∧ W.cell? ⟨w2.heap.size, 2, none⟩ = some (.int .i64 bx) ∧ W.cell? ⟨w2.heap.size, 3, none⟩ = some (.int .i64 bY) ∧ W.cell? ⟨w2.heap.size, 4, none⟩ = some (.int .i64 cx) ∧ W.cell? ⟨w2.heap.size, 5, none⟩ = some (.int .i64 cy) ∧ W.cell? ⟨w2.heap.size, 6, none⟩ = some (.int .i64 dx) ∧ W.cell? ⟨w2.heap.size, 7, none⟩ = some (.int .i64 dy) ∧ W.cell? ⟨w2.heap.size, 8, none⟩ = some (.slice cs m mcap) ∧ True) (by kernel_rfl) ⟨HcE0, HcE1, HcE2, HcE3, HcE4, HcE5, HcE6, HcE7, HcE8, trivial⟩ (fun hHeld => ?_)
    refine tkD 0 (some 45) rfl ?_; simp only [pz]
    refine tkD 1 (some 46) rfl ?_; simp only [pz]
    refine tkD 2 (some 47) rfl ?_; simp only [pz]
    refine tkD 4 (some 49) rfl ?_; simp only [pz]
    refine wpAnyH_inv3 (fuel := 3) [3, 5] [6] [48, 50, 51] (fun u L W => (World.grownBy wE W (some g) ∧ Src W g) ∧ (L 3 → FNat 8 (u 48)) ∧ (L 5 → FNat 900 (u 50)) ∧ (L 6 → FInt (u 51)) ∧ True) (by decide) (by kernel_rfl) (by kernel_rfl) (fun _ _ _ _ _ h => h) (fun u L W hJ => ⟨cell_grown hJ.1.1 (by omega) HcE0, cell_grown hJ.1.1 (by omega) HcE1, cell_grown hJ.1.1 (by omega) HcE2, cell_grown hJ.1.1 (by omega) HcE3, cell_grown hJ.1.1 (by omega) HcE4, cell_grown hJ.1.1 (by omega) HcE5, cell_grown hJ.1.1 (by omega) HcE6, cell_grown hJ.1.1 (by omega) HcE7, cell_grown hJ.1.1 (by omega) HcE8, trivial⟩) (fun u L hL => ⟨⟨gr_drew (World.grownBy.refl _ _), by assumption⟩, fun k => absurd k (hL 3 (by decide)), fun k => absurd k (hL 5 (by decide)), fun k => absurd k (hL 6 (by decide)), trivial⟩) ?_ ?_ ?_
    ·refine sc1 48 ?_ ?_
     rotate_left
     refine sc1 50 ?_ ?_
     rotate_left
     exact StepsH.nil
     ·intro u L W hn hd hJ
      obtain ⟨hk, f48, f50, f51, _⟩ := hJ
      have hnd := hk.2
      intro K hK
      simp only [puts, pz]
      go_simp; (first | (go_at_call 13; (with_reducible refine (spec_l01NextN g 8 8 _ hnd (by decide) (by decide) (by decide)).mono ?_); rintro e w9 ⟨⟨xx, rfl, hxx⟩, hg, hs⟩) | (go_at_call 13; (with_reducible refine (spec_l01NextN g 900 900 _ hnd (by decide) (by decide) (by decide)).mono ?_); rintro e w9 ⟨⟨xx, rfl, hxx⟩, hg, hs⟩))
      all_goals (try go_wp2_with fail)
      all_goals
       apply Shut.go3 (W := W) (g := g) hK
       ·simp only [puts, pz]; rfl
       ·exact gbz
       ·exact sbz
       ·intro hg hs; exact ⟨Dr.step hk hg hs, fun _ => by rw [upd_same]; exact ⟨_, rfl, by first | assumption | omega⟩, unz f50, unz f51, trivial⟩
     ·intro u L W hn hd hJ
      obtain ⟨hk, f48, f50, f51, _⟩ := hJ
      have hnd := hk.2
      intro K hK
      simp only [puts, pz]
      go_simp; (first | (go_at_call 13; (with_reducible refine (spec_l01NextN g 8 8 _ hnd (by decide) (by decide) (by decide)).mono ?_); rintro e w9 ⟨⟨xx, rfl, hxx⟩, hg, hs⟩) | (go_at_call 13; (with_reducible refine (spec_l01NextN g 900 900 _ hnd (by decide) (by decide) (by decide)).mono ?_); rintro e w9 ⟨⟨xx, rfl, hxx⟩, hg, hs⟩))
      all_goals (try go_wp2_with fail)
      all_goals
       apply Shut.go3 (W := W) (g := g) hK
       ·simp only [puts, pz]; rfl
       ·exact gbz
       ·exact sbz
       ·intro hg hs; exact ⟨Dr.step hk hg hs, unz f48, fun _ => by rw [upd_same]; exact ⟨_, rfl, by first | assumption | omega⟩, unz f51, trivial⟩
    ·refine PuresH.cons (d := 51) (o := ⟨some 51, _, _, _, _, _⟩) rfl rfl (by kernel_rfl) (by kernel_rfl) ?_ ?_
     rotate_left
     exact PuresH.nil
     ·intro u L W hn hd hJ
      obtain ⟨hk, f48, f50, f51, _⟩ := hJ
      have hnd := hk.2
      obtain ⟨x48, e48, l48⟩ := f48 (hd 3 (by kernel_rfl))
      have il48 : (0 : Int) ≤ (x48 : Int) := (by omega); have iu48 : (x48 : Int) < (8 : Int) := (by omega)
      obtain ⟨x50, e50, l50⟩ := f50 (hd 5 (by kernel_rfl))
      have il50 : (0 : Int) ≤ (x50 : Int) := (by omega); have iu50 : (x50 : Int) < (900 : Int) := (by omega)
      simp only [puts, pz, e48, e50]
      refine ⟨?_, Or.inl ⟨by kernel_rfl, ?_⟩, ?_⟩; rotate_left; focus (intro W0 hSw; (try dsimp only at hSw); go_simp; (try with_reducible rfl))
      exact ⟨hk, unz f48, unz f50, fun _ => by rw [upd_same]; exact ⟨_, rfl⟩, trivial⟩
    ·intro u L W hJ hL
     obtain ⟨hk, f48, f50, f51, _⟩ := hJ
     obtain ⟨x48, e48, l48⟩ := f48 (hL 3 (by kernel_rfl))
     obtain ⟨x50, e50, l50⟩ := f50 (hL 5 (by kernel_rfl))
     obtain ⟨x51, e51⟩ := f51 (hL 6 (by kernel_rfl))
     clear hHeld; have hcW := gcell hk.1; have hfW := gfroz hk.1; have hHeld := trivial; have lW := hk.1.size
     clear f48
     clear f50
     clear f51
     simp only [puts, pz, Array.replicate, e48, e50, e51]
     refine rd1 7 none rfl (fun K hK => ?_)
     go_simp
     all_goals (try go_wp2_with fail)
     refine hK.out _ _ ?_ (fun hH2 => ?_)
     ·exact ⟨(by go_simp; done), (by go_simp; done), (by go_simp; done), (by go_simp; done), (by go_simp; done), (by go_simp; done), (by go_simp; done), (by go_simp; done), (by go_simp; done), trivial⟩
     clear hK K hHeld; (have hHeld := hH2.2.2.2.2.2.2.2.2.2); clear hH2; (try simp only [Act.put])
     refine rd1 8 (some 3) rfl (fun K hK => ?_)
     go_simp
     all_goals (try go_wp2_with fail)
     refine hK.out _ _ ?_ (fun hH2 => ?_)
     ·exact ⟨(by go_simp; done), (by go_simp; done), (by go_simp; done), (by go_simp; done), (by go_simp; done), (by go_simp; done), (by go_simp; done), (by go_simp; done), (by go_simp; done), trivial⟩
     clear hK K hHeld; (have hHeld := hH2.2.2.2.2.2.2.2.2.2); clear hH2; (try simp only [Act.put])
     refine rd1 9 (some 4) rfl (fun K hK => ?_)
     go_simp
     all_goals (try go_wp2_with fail)
     refine hK.out _ _ ?_ (fun hH2 => ?_)
     ·exact ⟨(by go_simp; done), (by go_simp; done), (by go_simp; done), (by go_simp; done), (by go_simp; done), (by go_simp; done), (by go_simp; done), (by go_simp; done), (by go_simp; done), trivial⟩
     clear hK K hHeld; (have hHeld := hH2.2.2.2.2.2.2.2.2.2); clear hH2; (try simp only [Act.put])
     refine wpAnyH_done (by kernel_rfl) ?_ _; (try simp only [pz])
     have HKF := hide (HKE.out.grown hk.1 (by omega) (by omega))
     have HOF := hide (HOE.out.grown hk.1 (by omega))
     have zE := hk.1.size
     have HBF := below_gr HBE.out hk.1 (by omega) gl
     go_wp2
     simp [bodyPost, results, Tryz.results5, go_sem, *]
     exact PDrawOrderAt.mk qm9 qmc q17 (show OwnM _ w1.heap.size N X Y S Z m cs from by (repeat with_reducible refine OwnM.far ?_ (by omega)); exact HOF.out).row (show Trk _ wB.heap.size wB.heap.size _ _ from by (repeat with_reducible refine Trk.far ?_ (by omega) (by omega)); exact HKF.out) bwz
end Go.Proofs.YtcmjcedlbhdihaaGreatDoor
