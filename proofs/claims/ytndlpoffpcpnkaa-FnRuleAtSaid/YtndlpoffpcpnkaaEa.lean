/- Walks: what FnRuleAt begins with. -/
import Derived.Test.YtndlpoffpcpnkaaDf
import Derived.Deep.DeepCutAuto
namespace Go.Proofs.Ytndlpoffpcpnkaa
open Go.RowKit

/-- A wind, two tracks, a time, a length and a span. -/
def RuD (e : Ending) (w' : World) : Prop := ∃ (wx wy time len span : Int) (so : Option Addr) (n cap : Nat) (T X Y : Nat → Int) (so2 : Option Addr) (n2 cap2 : Nat) (U V Z : Nat → Int), e = .returned (.tuple #[.agg #[.int .i64 wx, .int .i64 wy], .agg #[.slice so n cap], .agg #[.slice so2 n2 cap2], .int .i64 time, .int .i64 len, .int .i64 span]) ∧ n ≤ 41 ∧ n2 ≤ 41 ∧ RowAt w' so n 3 (v3 T X Y) ∧ RowAt w' so2 n2 3 (v3 U V Z)

set_option maxRecDepth 100000 in
set_option maxHeartbeats 8000000 in
theorem spec_DrawRuleAt (so : Option Addr) (n cap : Nat) (B : Nat → Int) (w : World) (h : RowAt w so n 1 (vb B)) (hB : ∀ i, 0 ≤ B i ∧ B i ≤ 255) (hn : n ≤ 1048576) :
    Calls Try.prog 5 #[.slice so n cap] w fun e w' => RuD e w' ∧ Below w.heap.size w w' := by
  go_enter Try.func5, Try.ntmps5
  go_wp2_with fail; (with_reducible refine (spec_l01From so n cap B _ (RowAt.later bwz h) hB hn).mono ?_); rintro e w1 ⟨rfl, hs1, hb1⟩
  obtain ⟨hc1, hf1⟩ := bcell hb1
  simp only [size_al] at hs1
  have hz1 := hb1.size
  simp only [size_al] at hz1
  have z0 : w.heap.size < w1.heap.size := by omega
  have z1 : w.heap.size + 1 < w1.heap.size := by omega
  have z2 : w.heap.size + 1 + 1 < w1.heap.size := by omega
  have ra0_0 : w1.cell? ⟨w.heap.size, 0, none⟩ = some (.int .i64 0) := by rw [hc1 _ _ (by first | (simp; done) | (simp; omega))]; go_simp
  have rb0_0 : w1.frozen? ⟨w.heap.size, 0, none⟩ = false := by rw [hf1 _ _ (by first | (simp; done) | (simp; omega))]; go_simp
  have ra0_1 : w1.cell? ⟨w.heap.size, 1, none⟩ = some (.int .i64 0) := by rw [hc1 _ _ (by first | (simp; done) | (simp; omega))]; go_simp
  have rb0_1 : w1.frozen? ⟨w.heap.size, 1, none⟩ = false := by rw [hf1 _ _ (by first | (simp; done) | (simp; omega))]; go_simp
  have ra1_0 : w1.cell? ⟨w.heap.size + 1, 0, none⟩ = some (.slice none 0 0) := by rw [hc1 _ _ (by first | (simp; done) | (simp; omega))]; go_simp
  have rb1_0 : w1.frozen? ⟨w.heap.size + 1, 0, none⟩ = false := by rw [hf1 _ _ (by first | (simp; done) | (simp; omega))]; go_simp
  have ra2_0 : w1.cell? ⟨w.heap.size + 1 + 1, 0, none⟩ = some (.slice none 0 0) := by rw [hc1 _ _ (by first | (simp; done) | (simp; omega))]; go_simp
  have rb2_0 : w1.frozen? ⟨w.heap.size + 1 + 1, 0, none⟩ = false := by rw [hf1 _ _ (by first | (simp; done) | (simp; omega))]; go_simp
  have HB1 := hide (show Below w.heap.size w w1 from bwz)
  clear hc1 hf1
  obtain ⟨g, hg⟩ : ∃ g, g = w.heap.size + 1 + 1 + 1 := ⟨_, rfl⟩
  simp only [size_al]
  rw [← hg] at hs1 ⊢
  have gl : w.heap.size ≤ g := by omega
  have g0 : ¬ w.heap.size = g := by omega
  have g1 : ¬ w.heap.size + 1 = g := by omega
  have g2 : ¬ w.heap.size + 1 + 1 = g := by omega
  have lg0 := Src.lt hs1
  clear hg
  go_wp2_with fail; (with_reducible refine (spec_l03DrawAny g _ swz).mono ?_); rintro e w2 ⟨⟨so9, n9, cap9, L9, rfl, q1, q2, q4, ho⟩, hg2, hs2⟩; have hc2 := gcell hg2; have hf2 := gfroz hg2; have lg2 := Src.lt hs2; have nga2 : ¬ w2.heap.size = g := (by omega); have ngb2 : ¬ g = w2.heap.size := (by omega); have hzs2 := hg2.size; (try simp at hzs2); have zx2_0 : w.heap.size < w2.heap.size := (by first | omega | (simp at hzs2; omega)); have zy2_0 : w.heap.size < w2.heap.size + 1 := (by omega); have zw2_0 : ¬ w2.heap.size = w.heap.size := (by omega); have zv2_0 : ¬ w.heap.size = w2.heap.size := (by omega); have zu2_0 : w.heap.size < w2.heap.size + 1 + 1 := (by omega); have zt2_0 : ¬ w2.heap.size + 1 = w.heap.size := (by omega); have zr2_0 : ¬ w.heap.size = w2.heap.size + 1 := (by omega); have zx2_1 : w.heap.size + 1 < w2.heap.size := (by first | omega | (simp at hzs2; omega)); have zy2_1 : w.heap.size + 1 < w2.heap.size + 1 := (by omega); have zw2_1 : ¬ w2.heap.size = w.heap.size + 1 := (by omega); have zv2_1 : ¬ w.heap.size + 1 = w2.heap.size := (by omega); have zu2_1 : w.heap.size + 1 < w2.heap.size + 1 + 1 := (by omega); have zt2_1 : ¬ w2.heap.size + 1 = w.heap.size + 1 := (by omega); have zr2_1 : ¬ w.heap.size + 1 = w2.heap.size + 1 := (by omega); have zx2_2 : w.heap.size + 1 + 1 < w2.heap.size := (by first | omega | (simp at hzs2; omega)); have zy2_2 : w.heap.size + 1 + 1 < w2.heap.size + 1 := (by omega); have zw2_2 : ¬ w2.heap.size = w.heap.size + 1 + 1 := (by omega); have zv2_2 : ¬ w.heap.size + 1 + 1 = w2.heap.size := (by omega); have zu2_2 : w.heap.size + 1 + 1 < w2.heap.size + 1 + 1 := (by omega); have zt2_2 : ¬ w2.heap.size + 1 = w.heap.size + 1 + 1 := (by omega); have zr2_2 : ¬ w.heap.size + 1 + 1 = w2.heap.size + 1 := (by omega)
  have HB2 := hide (below_gr HB1.out hg2 (by omega) gl)
  have Ho2 := hide ho
  clear ho
  go_wp2_with fail; (with_reducible refine (spec_l03DrawAny g _ swz).mono ?_); rintro e w3 ⟨⟨so8, n8, cap8, L8, rfl, r1, r2, r3, ho⟩, hg3, hs3⟩; have hc3 := gcell hg3; have hf3 := gfroz hg3; have lg3 := Src.lt hs3; have nga3 : ¬ w3.heap.size = g := (by omega); have ngb3 : ¬ g = w3.heap.size := (by omega); have hzs3 := hg3.size; (try simp at hzs3); have zx3_0 : w.heap.size < w3.heap.size := (by first | omega | (simp at hzs3; omega)); have zy3_0 : w.heap.size < w3.heap.size + 1 := (by omega); have zw3_0 : ¬ w3.heap.size = w.heap.size := (by omega); have zv3_0 : ¬ w.heap.size = w3.heap.size := (by omega); have zu3_0 : w.heap.size < w3.heap.size + 1 + 1 := (by omega); have zt3_0 : ¬ w3.heap.size + 1 = w.heap.size := (by omega); have zr3_0 : ¬ w.heap.size = w3.heap.size + 1 := (by omega); have zx3_1 : w.heap.size + 1 < w3.heap.size := (by first | omega | (simp at hzs3; omega)); have zy3_1 : w.heap.size + 1 < w3.heap.size + 1 := (by omega); have zw3_1 : ¬ w3.heap.size = w.heap.size + 1 := (by omega); have zv3_1 : ¬ w.heap.size + 1 = w3.heap.size := (by omega); have zu3_1 : w.heap.size + 1 < w3.heap.size + 1 + 1 := (by omega); have zt3_1 : ¬ w3.heap.size + 1 = w.heap.size + 1 := (by omega); have zr3_1 : ¬ w.heap.size + 1 = w3.heap.size + 1 := (by omega); have zx3_2 : w.heap.size + 1 + 1 < w3.heap.size := (by first | omega | (simp at hzs3; omega)); have zy3_2 : w.heap.size + 1 + 1 < w3.heap.size + 1 := (by omega); have zw3_2 : ¬ w3.heap.size = w.heap.size + 1 + 1 := (by omega); have zv3_2 : ¬ w.heap.size + 1 + 1 = w3.heap.size := (by omega); have zu3_2 : w.heap.size + 1 + 1 < w3.heap.size + 1 + 1 := (by omega); have zt3_2 : ¬ w3.heap.size + 1 = w.heap.size + 1 + 1 := (by omega); have zr3_2 : ¬ w.heap.size + 1 + 1 = w3.heap.size + 1 := (by omega)
  have HB3 := hide (below_gr HB2.out hg3 (by omega) gl)
  have Ho9 := hide (Ho2.out.grown hg3 (by omega))
  have Ho8 := hide ho
  clear ho Ho2
  go_upto_region 3 with fail
  obtain ⟨wB, hB9⟩ : ∃ W, W = (w3.alloc (.cells #[.slice so9 n9 cap9] 28)).alloc (.cells #[.slice so8 n8 cap8] 28) := ⟨_, rfl⟩
  have szB : wB.heap.size = w3.heap.size + 1 + 1 := by rw [hB9]; simp
  have sB : Src wB g := by rw [hB9]; exact swz
  have HBB := hide (show Below w.heap.size w wB by rw [hB9]; exact Below.alloc (Below.alloc HB3.out (by omega) _) (by simp; omega) _)
  have hlB : Below w3.heap.size w3 wB := by rw [hB9]; exact Below.alloc (Below.alloc (Below.refl _ _) (Nat.le_refl _) _) (by simp) _
  have HoB9 := hide (Ho9.out.later hlB)
  have HoB8 := hide (Ho8.out.later hlB)
  have t0 : wB.cell? ⟨w3.heap.size, 0, none⟩ = some (.slice so9 n9 cap9) := by rw [hB9]; go_simp
  have t1 : wB.cell? ⟨w3.heap.size + 1, 0, none⟩ = some (.slice so8 n8 cap8) := by rw [hB9]; go_simp
  have rc0_0 : wB.cell? ⟨w.heap.size, 0, none⟩ = some (.int .i64 0) := by rw [hB9]; go_simp
  have rd0_0 : wB.frozen? ⟨w.heap.size, 0, none⟩ = false := by rw [hB9]; go_simp
  have rc0_1 : wB.cell? ⟨w.heap.size, 1, none⟩ = some (.int .i64 0) := by rw [hB9]; go_simp
  have rd0_1 : wB.frozen? ⟨w.heap.size, 1, none⟩ = false := by rw [hB9]; go_simp
  have rc1_0 : wB.cell? ⟨w.heap.size + 1, 0, none⟩ = some (.slice none 0 0) := by rw [hB9]; go_simp
  have rd1_0 : wB.frozen? ⟨w.heap.size + 1, 0, none⟩ = false := by rw [hB9]; go_simp
  have rc2_0 : wB.cell? ⟨w.heap.size + 1 + 1, 0, none⟩ = some (.slice none 0 0) := by rw [hB9]; go_simp
  have rd2_0 : wB.frozen? ⟨w.heap.size + 1 + 1, 0, none⟩ = false := by rw [hB9]; go_simp
  have zb0 : w.heap.size < wB.heap.size := by omega
  have zb1 : w.heap.size + 1 < wB.heap.size := by omega
  have zb2 : w.heap.size + 1 + 1 < wB.heap.size := by omega
  have zb3 : w3.heap.size < wB.heap.size := by omega
  have zb4 : w3.heap.size + 1 < wB.heap.size := by omega
  have ng3 : ¬ w3.heap.size = g := by omega
  have ng4 : ¬ w3.heap.size + 1 = g := by omega
  have sz2 : g < w2.heap.size := by omega
  have sz12 : g < w1.heap.size := by omega
  rw [← hB9]
  clear hB9 hlB ra0_0 rb0_0 ra0_1 rb0_1 ra1_0 rb1_0 ra2_0 rb2_0 hc2 hf2 hg2 hs2 hs1 hc3 hf3 hg3 hs3 Ho9 Ho8 HB1 HB2 HB3 szB
  go_wp2_with fail; (with_reducible refine (spec_l03DrawTime g _ _ _ _ _ _ sB HoB9.out q2 sz12).mono ?_); rintro e w4 ⟨⟨x4, rfl⟩, hg4, hs4⟩; have hc4 := gcell hg4; have hf4 := gfroz hg4; have lg4 := Src.lt hs4; have nga4 : ¬ w4.heap.size = g := (by omega); have ngb4 : ¬ g = w4.heap.size := (by omega); have hzs4 := hg4.size; (try simp at hzs4); have zx4_0 : w.heap.size < w4.heap.size := (by first | omega | (simp at hzs4; omega)); have zy4_0 : w.heap.size < w4.heap.size + 1 := (by omega); have zw4_0 : ¬ w4.heap.size = w.heap.size := (by omega); have zv4_0 : ¬ w.heap.size = w4.heap.size := (by omega); have zu4_0 : w.heap.size < w4.heap.size + 1 + 1 := (by omega); have zt4_0 : ¬ w4.heap.size + 1 = w.heap.size := (by omega); have zr4_0 : ¬ w.heap.size = w4.heap.size + 1 := (by omega)
  have HBD := hide (below_gr HBB.out hg4 (by omega) gl)
  have HoD9 := hide (HoB9.out.grown hg4 sz12)
  have HoD8 := hide (HoB8.out.grown hg4 sz2)
  have u0 : w4.cell? ⟨w3.heap.size, 0, none⟩ = some (.slice so9 n9 cap9) := (hc4 _ _ zb3 ng3).trans t0
  have u1 : w4.cell? ⟨w3.heap.size + 1, 0, none⟩ = some (.slice so8 n8 cap8) := (hc4 _ _ zb4 ng4).trans t1
  have re0_0 := (hc4 _ _ zb0 g0).trans rc0_0
  have rf0_0 := (hf4 _ _ zb0 g0).trans rd0_0
  have re0_1 := (hc4 _ _ zb0 g0).trans rc0_1
  have rf0_1 := (hf4 _ _ zb0 g0).trans rd0_1
  have re1_0 := (hc4 _ _ zb1 g1).trans rc1_0
  have rf1_0 := (hf4 _ _ zb1 g1).trans rd1_0
  have re2_0 := (hc4 _ _ zb2 g2).trans rc2_0
  have rf2_0 := (hf4 _ _ zb2 g2).trans rd2_0
  have z40 : w3.heap.size < w4.heap.size := by omega
  have z41 : w3.heap.size + 1 < w4.heap.size := by omega
  have z42 : w.heap.size < w4.heap.size := by omega
  have z43 : w.heap.size + 1 < w4.heap.size := by omega
  have z44 : w.heap.size + 1 + 1 < w4.heap.size := by omega
  clear HBB HoB9 HoB8 t0 t1 rc0_0 rd0_0 rc0_1 rd0_1 rc1_0 rd1_0 rc2_0 rd2_0 hc4 hf4 hg4
  go_upto_region 4 with fail
  go_cut [35] (fun s W => ∃ bo : Bool, s = .bool bo ∧ (bo = true → 1 < n9 ∧ 1 < n8) ∧ w4.grownBy W (some g) ∧ Src W g)
  case first =>
    go_wp2_with fail; (with_reducible refine (spec_l01Next g _ _ swz (by decide)).mono ?_); rintro e w5 ⟨⟨x5, rfl, hx5⟩, hg5, hs5⟩; have hc5 := gcell hg5; have hf5 := gfroz hg5; have lg5 := Src.lt hs5; have nga5 : ¬ w5.heap.size = g := (by omega); have ngb5 : ¬ g = w5.heap.size := (by omega); have hzs5 := hg5.size; (try simp at hzs5); have zx5_0 : w.heap.size < w5.heap.size := (by first | omega | (simp at hzs5; omega)); have zy5_0 : w.heap.size < w5.heap.size + 1 := (by omega); have zw5_0 : ¬ w5.heap.size = w.heap.size := (by omega); have zv5_0 : ¬ w.heap.size = w5.heap.size := (by omega); have zu5_0 : w.heap.size < w5.heap.size + 1 + 1 := (by omega); have zt5_0 : ¬ w5.heap.size + 1 = w.heap.size := (by omega); have zr5_0 : ¬ w.heap.size = w5.heap.size + 1 := (by omega)
    clear hx5
    have u5 := (hc5 _ _ z40 ng3).trans u0
    have u6 := (hc5 _ _ z41 ng4).trans u1
    by_cases k5 : 0 < x5
    · by_cases kn : 1 < n9
      · have kni : (1 : Int) < (n9 : Int) := by omega
        by_cases km : 1 < n8
        · have kmi : (1 : Int) < (n8 : Int) := by omega
          go_wp2_with fail
          go_meet
          exact ⟨true, rfl, fun _ => ⟨kn, km⟩, gwz, swz⟩
        · have kmi : ¬ (1 : Int) < (n8 : Int) := by omega
          go_wp2_with fail
          go_meet
          exact ⟨_, rfl, (fun k => by first | (cases k; done) | (have := of_decide_eq_true k; omega)), gwz, swz⟩
      · have kni : ¬ (1 : Int) < (n9 : Int) := by omega
        go_wp2_with fail
        go_meet
        exact ⟨_, rfl, (fun k => by first | (cases k; done) | (have := of_decide_eq_true k; omega)), gwz, swz⟩
    · go_wp2_with fail
      go_meet
      exact ⟨_, rfl, (fun k => by first | (cases k; done) | (have := of_decide_eq_true k; omega)), gwz, swz⟩
  case rest =>
  obtain ⟨bo, rfl, hbo, hgc, hsc⟩ := hcut
  obtain ⟨wD, rfl⟩ : ∃ W : World, W = wc := ⟨_, rfl⟩
  have hcD := gcell hgc
  have hfD := gfroz hgc
  have zD := hgc.size
  have HBE := hide (below_gr HBD.out hgc (by omega) gl)
  have HoE9 := hide (HoD9.out.grown hgc sz12)
  have HoE8 := hide (HoD8.out.grown hgc sz2)
  have v0 : wD.cell? ⟨w3.heap.size, 0, none⟩ = some (.slice so9 n9 cap9) := (hcD _ _ z40 ng3).trans u0
  have v1' : wD.cell? ⟨w3.heap.size + 1, 0, none⟩ = some (.slice so8 n8 cap8) := (hcD _ _ z41 ng4).trans u1
  have ri0_0 := (hcD _ _ z42 g0).trans re0_0
  have rj0_0 := (hfD _ _ z42 g0).trans rf0_0
  have ri0_1 := (hcD _ _ z42 g0).trans re0_1
  have rj0_1 := (hfD _ _ z42 g0).trans rf0_1
  have ri1_0 := (hcD _ _ z43 g1).trans re1_0
  have rj1_0 := (hfD _ _ z43 g1).trans rf1_0
  have ri2_0 := (hcD _ _ z44 g2).trans re2_0
  have rj2_0 := (hfD _ _ z44 g2).trans rf2_0
  have y0 : w.heap.size < wD.heap.size := by omega
  have y1 : w.heap.size + 1 < wD.heap.size := by omega
  have y2 : w.heap.size + 1 + 1 < wD.heap.size := by omega
  have y3 : w3.heap.size < wD.heap.size := by omega
  have y4 : w3.heap.size + 1 < wD.heap.size := by omega
  clear hcD hfD hgc HBD HoD9 HoD8 u0 u1 re0_0 rf0_0 re0_1 rf0_1 re1_0 rf1_0 re2_0 rf2_0 hs4
  cases bo
  · clear hbo
    go_upto_region 6 with fail
    have hgB := World.grownBy.refl wD (some g)
    have HwE : World.grownBy wD wD (some g) := gwz
    have HcE0 : World.cell? wD ⟨w3.heap.size, 0, none⟩ = some (.slice so9 n9 cap9) := (by go_simp)
    have HcE1 : World.cell? wD ⟨w3.heap.size + 1, 0, none⟩ = some (.slice so8 n8 cap8) := (by go_simp)
    refine wp_region_held_drew (S := fun W => W.cell? ⟨w3.heap.size, 0, none⟩ = some (.slice so9 n9 cap9) ∧ W.cell? ⟨w3.heap.size + 1, 0, none⟩ = some (.slice so8 n8 cap8) ∧ True) (by kernel_rfl) ⟨HcE0, HcE1, trivial⟩ (fun hHeld => ?_)
    refine tkD 0 (some 53) rfl ?_; (try simp only [pz])
    refine tkD 2 (some 55) rfl ?_; (try simp only [pz])
    refine tkD 3 (some 56) rfl ?_; (try simp only [pz])
    refine tkD 4 (some 57) rfl ?_; (try simp only [pz])
    refine tkD 5 (some 58) rfl ?_; (try simp only [pz])
    refine tkD 8 (some 61) rfl ?_; (try simp only [pz])
    refine wpAnyH_inv3 (fuel := 6) [1, 6, 9] [7] [54, 59, 60, 62] (fun u L W => (World.grownBy wD W (some g) ∧ Src W g) ∧ (L 1 → FAgg2 (u 54)) ∧ (L 6 → FInt (u 59)) ∧ (L 7 → FInt (u 60)) ∧ (L 9 → FInt (u 62)) ∧ True) (by decide) (by kernel_rfl) (by kernel_rfl) (fun _ _ _ _ _ h => h) (fun u L W hJ => ⟨cell_grown hJ.1.1 (by omega) HcE0, cell_grown hJ.1.1 (by omega) HcE1, trivial⟩) (fun u L hL => ⟨⟨gr_drew (World.grownBy.refl _ _), by assumption⟩, fun k => absurd k (hL 1 (by decide)), fun k => absurd k (hL 6 (by decide)), fun k => absurd k (hL 7 (by decide)), fun k => absurd k (hL 9 (by decide)), trivial⟩) ?_ ?_ ?_
    · refine StepsH.cons (d := 54) (o := ⟨some 54, _, _, _, _, _⟩) rfl rfl (by kernel_rfl) ?_ ?_
      rotate_left
      refine StepsH.cons (d := 59) (o := ⟨some 59, _, _, _, _, _⟩) rfl rfl (by kernel_rfl) ?_ ?_
      rotate_left
      refine StepsH.cons (d := 62) (o := ⟨some 62, _, _, _, _, _⟩) rfl rfl (by kernel_rfl) ?_ ?_
      rotate_left
      exact StepsH.nil
      · intro u L W hn hd hJ
        obtain ⟨hk, f54, f59, f60, f62, _⟩ := hJ
        have hnd := hk.2
        intro K hK
        simp only [puts, pz]
        go_simp; (first | (go_at_call 15; (with_reducible refine (spec_l08DrawAny g _ hnd).mono ?_); rintro e w9 ⟨⟨xx, yy, rfl⟩, hg, hs⟩) | (go_at_call 14; (with_reducible refine (spec_l01Next g _ _ hnd (by decide)).mono ?_); rintro e w9 ⟨⟨xx, rfl, hxx⟩, hg, hs⟩) | (go_at_call 16; (with_reducible refine (spec_l10DrawSpan g _ hnd).mono ?_); rintro e w9 ⟨⟨xx, rfl⟩, hg, hs⟩))
        all_goals (try go_wp2_with fail)
        all_goals
          apply Shut.go3 (W := W) (g := g) hK
          · simp only [puts, pz]; rfl
          · first | with_reducible assumption | with_reducible exact World.grownBy.refl _ _ | exact World.grownBy_alloc _ _ _
          · first | with_reducible assumption | exact Src.alloc hnd _
          · intro hg hs; exact ⟨Dr.step hk hg hs, fun _ => by rw [upd_same]; exact ⟨_, _, rfl⟩, fun k => by rw [upd_ne u _ (by decide)]; exact (f59 (k.resolve_left (by decide))), fun k => by rw [upd_ne u _ (by decide)]; exact (f60 (k.resolve_left (by decide))), fun k => by rw [upd_ne u _ (by decide)]; exact (f62 (k.resolve_left (by decide))), trivial⟩
      · intro u L W hn hd hJ
        obtain ⟨hk, f54, f59, f60, f62, _⟩ := hJ
        have hnd := hk.2
        intro K hK
        simp only [puts, pz]
        go_simp; (first | (go_at_call 15; (with_reducible refine (spec_l08DrawAny g _ hnd).mono ?_); rintro e w9 ⟨⟨xx, yy, rfl⟩, hg, hs⟩) | (go_at_call 14; (with_reducible refine (spec_l01Next g _ _ hnd (by decide)).mono ?_); rintro e w9 ⟨⟨xx, rfl, hxx⟩, hg, hs⟩) | (go_at_call 16; (with_reducible refine (spec_l10DrawSpan g _ hnd).mono ?_); rintro e w9 ⟨⟨xx, rfl⟩, hg, hs⟩))
        all_goals (try go_wp2_with fail)
        all_goals
          apply Shut.go3 (W := W) (g := g) hK
          · simp only [puts, pz]; rfl
          · first | with_reducible assumption | with_reducible exact World.grownBy.refl _ _ | exact World.grownBy_alloc _ _ _
          · first | with_reducible assumption | exact Src.alloc hnd _
          · intro hg hs; exact ⟨Dr.step hk hg hs, fun k => by rw [upd_ne u _ (by decide)]; exact (f54 (k.resolve_left (by decide))), fun _ => by rw [upd_same]; exact ⟨_, rfl⟩, fun k => by rw [upd_ne u _ (by decide)]; exact (f60 (k.resolve_left (by decide))), fun k => by rw [upd_ne u _ (by decide)]; exact (f62 (k.resolve_left (by decide))), trivial⟩
      · intro u L W hn hd hJ
        obtain ⟨hk, f54, f59, f60, f62, _⟩ := hJ
        have hnd := hk.2
        intro K hK
        simp only [puts, pz]
        go_simp; (first | (go_at_call 15; (with_reducible refine (spec_l08DrawAny g _ hnd).mono ?_); rintro e w9 ⟨⟨xx, yy, rfl⟩, hg, hs⟩) | (go_at_call 14; (with_reducible refine (spec_l01Next g _ _ hnd (by decide)).mono ?_); rintro e w9 ⟨⟨xx, rfl, hxx⟩, hg, hs⟩) | (go_at_call 16; (with_reducible refine (spec_l10DrawSpan g _ hnd).mono ?_); rintro e w9 ⟨⟨xx, rfl⟩, hg, hs⟩))
        all_goals (try go_wp2_with fail)
        all_goals
          apply Shut.go3 (W := W) (g := g) hK
          · simp only [puts, pz]; rfl
          · first | with_reducible assumption | with_reducible exact World.grownBy.refl _ _ | exact World.grownBy_alloc _ _ _
          · first | with_reducible assumption | exact Src.alloc hnd _
          · intro hg hs; exact ⟨Dr.step hk hg hs, fun k => by rw [upd_ne u _ (by decide)]; exact (f54 (k.resolve_left (by decide))), fun k => by rw [upd_ne u _ (by decide)]; exact (f59 (k.resolve_left (by decide))), fun k => by rw [upd_ne u _ (by decide)]; exact (f60 (k.resolve_left (by decide))), fun _ => by rw [upd_same]; exact ⟨_, rfl⟩, trivial⟩
    · refine PuresH.cons (d := 60) (o := ⟨some 60, _, _, _, _, _⟩) rfl rfl (by kernel_rfl) (by kernel_rfl) ?_ ?_
      rotate_left
      exact PuresH.nil
      · intro u L W hn hd hJ
        obtain ⟨hk, f54, f59, f60, f62, _⟩ := hJ
        have hnd := hk.2
        obtain ⟨x59, e59⟩ := f59 (hd 6 (by kernel_rfl))
        simp only [puts, pz, e59]
        refine ⟨?_, Or.inl ⟨by kernel_rfl, ?_⟩, ?_⟩; rotate_left; focus (intro W0 hSw; (try dsimp only at hSw); go_simp; (try with_reducible rfl))
        exact ⟨hk, fun k => by rw [upd_ne u _ (by decide)]; exact (f54 (k.resolve_left (by decide))), fun k => by rw [upd_ne u _ (by decide)]; exact (f59 (k.resolve_left (by decide))), fun _ => by rw [upd_same]; exact ⟨_, rfl⟩, fun k => by rw [upd_ne u _ (by decide)]; exact (f62 (k.resolve_left (by decide))), trivial⟩
    · intro u L W hJ hL
      obtain ⟨hk, f54, f59, f60, f62, _⟩ := hJ
      obtain ⟨x54_0, x54_1, e54⟩ := f54 (hL 1 (by kernel_rfl))
      obtain ⟨x59, e59⟩ := f59 (hL 6 (by kernel_rfl))
      obtain ⟨x60, e60⟩ := f60 (hL 7 (by kernel_rfl))
      obtain ⟨x62, e62⟩ := f62 (hL 9 (by kernel_rfl))
      clear hHeld; have hcW := gcell hk.1; have hfW := gfroz hk.1; have hHeld := trivial; have lW := hk.1.size
      clear f54
      clear f59
      clear f60
      clear f62
      simp only [puts, pz, setAll, Array.replicate, e54, e59, e60, e62]
      refine wpAnyH_ready (rs := [10]) (by kernel_rfl) (by simp) ?_; refine (AllReadyH.cons (o := ⟨none, _, _, _, _, _⟩) rfl (fun K hK => ?_) AllReadyH.nil)
      go_simp
      all_goals (try go_wp2_with fail)
      refine hK.out _ _ ?_ (fun hH2 => ?_)
      · exact ⟨(by go_simp; done), (by go_simp; done), trivial⟩
      clear hK K hHeld; (have hHeld := hH2.2.2); clear hH2; (try simp only [Act.put])
      refine wpAnyH_ready (rs := [11]) (by kernel_rfl) (by simp) ?_; refine (AllReadyH.cons (o := ⟨none, _, _, _, _, _⟩) rfl (fun K hK => ?_) AllReadyH.nil)
      go_simp
      all_goals (try go_wp2_with fail)
      refine hK.out _ _ ?_ (fun hH2 => ?_)
      · exact ⟨(by go_simp; done), (by go_simp; done), trivial⟩
      clear hK K hHeld; (have hHeld := hH2.2.2); clear hH2; (try simp only [Act.put])
      refine wpAnyH_ready (rs := [12]) (by kernel_rfl) (by simp) ?_; refine (AllReadyH.cons (o := ⟨none, _, _, _, _, _⟩) rfl (fun K hK => ?_) AllReadyH.nil)
      go_simp
      all_goals (try go_wp2_with fail)
      refine hK.out _ _ ?_ (fun hH2 => ?_)
      · exact ⟨(by go_simp; done), (by go_simp; done), trivial⟩
      clear hK K hHeld; (have hHeld := hH2.2.2); clear hH2; (try simp only [Act.put])
      refine wpAnyH_ready (rs := [13]) (by kernel_rfl) (by simp) ?_; refine (AllReadyH.cons (o := ⟨some 5, _, _, _, _, _⟩) rfl (fun K hK => ?_) AllReadyH.nil)
      go_simp
      all_goals (try go_wp2_with fail)
      refine hK.out _ _ ?_ (fun hH2 => ?_)
      · exact ⟨(by go_simp; done), (by go_simp; done), trivial⟩
      clear hK K hHeld; (have hHeld := hH2.2.2); clear hH2; (try simp only [Act.put])
      refine wpAnyH_ready (rs := [14]) (by kernel_rfl) (by simp) ?_; refine (AllReadyH.cons (o := ⟨some 6, _, _, _, _, _⟩) rfl (fun K hK => ?_) AllReadyH.nil)
      go_simp
      all_goals (try go_wp2_with fail)
      refine hK.out _ _ ?_ (fun hH2 => ?_)
      · exact ⟨(by go_simp; done), (by go_simp; done), trivial⟩
      clear hK K hHeld; (have hHeld := hH2.2.2); clear hH2; (try simp only [Act.put])
      refine wpAnyH_ready (rs := [15]) (by kernel_rfl) (by simp) ?_; refine (AllReadyH.cons (o := ⟨some 7, _, _, _, _, _⟩) rfl (fun K hK => ?_) AllReadyH.nil)
      go_simp
      all_goals (try go_wp2_with fail)
      refine hK.out _ _ ?_ (fun hH2 => ?_)
      · exact ⟨(by go_simp; done), (by go_simp; done), trivial⟩
      clear hK K hHeld; (have hHeld := hH2.2.2); clear hH2; (try simp only [Act.put])
      refine wpAnyH_done (by kernel_rfl) ?_ _; (try simp only [pz])
      have HoF9 := hide (HoE9.out.grown hk.1 (by omega))
      have HoF8 := hide (HoE8.out.grown hk.1 (by omega))
      have zE := hk.1.size
      have HBF := below_gr HBE.out hk.1 (by omega) gl
      go_wp2
      simp [bodyPost, results, Try.results5, go_sem, *]
      exact ⟨⟨_, _, _, _, _, _, _, _, q3 L9 0, q3 L9 1, q3 L9 2, _, _, _, q3 L8 0, q3 L8 1, q3 L8 2, rfl, q2, r2, (OwnI.far (OwnI.far (OwnI.far (OwnI.far HoF9.out (by omega)) (by omega)) (by omega)) (by omega)).row3, (OwnI.far (OwnI.far (OwnI.far (OwnI.far HoF8.out (by omega)) (by omega)) (by omega)) (by omega)).row3⟩, bwz⟩
  · obtain ⟨kn, km⟩ := hbo rfl
    obtain ⟨b8, hb8, hbB, hbl, hbc⟩ := HoE8.out.blk (by omega)
    obtain ⟨m, rfl⟩ : ∃ m, n8 = m + 1 := ⟨n8 - 1, by omega⟩
    obtain ⟨tf, htf⟩ : ∃ x, x = L8[0]?.getD 0 := ⟨_, rfl⟩
    obtain ⟨tl, htl⟩ : ∃ x, x = L8[m * 3]?.getD 0 := ⟨_, rfl⟩
    have f0 := (hbc 0 (by omega)).1
    have f1 := (hbc (m * 3) (by omega)).1
    rw [← htf] at f0
    rw [← htl] at f1
    have wem : IntKind.i64.wrap (m : Int) = (m : Int) := IntWalk.i64_in _ (by omega)
    have hj1 : (0 : Int) ≤ (m : Int) := by omega
    have hj2 : (m : Int) < (m : Int) + 1 := by omega
    have hj3 : (0 : Int) < (m : Int) + 1 := by omega
    have v2' := v1'
    rw [hb8] at v2'
    go_upto_region 5 with fail
    go_cut [11] (fun s W => ∃ x : Int, s = .int .i64 x ∧ wD.grownBy W (some g) ∧ Src W g)
    case first =>
      clear v1' htf htl hbc
      obtain ⟨mx, hmx, hmc⟩ : ∃ mx : Int, (mx = x4 ∨ mx = tf) ∧ (mx = x4 ∧ tf < x4 ∨ mx = tf ∧ x4 < tf ∨ mx = x4 ∧ x4 = tf) := by
        rcases Int.lt_trichotomy x4 tf with c | c | c
        · exact ⟨tf, .inr rfl, .inr (.inl ⟨rfl, c⟩)⟩
        · exact ⟨x4, .inl rfl, .inr (.inr ⟨rfl, c⟩)⟩
        · exact ⟨x4, .inl rfl, .inl ⟨rfl, c⟩⟩
      clear hmx
      rcases hmc with ⟨rfl, c1⟩ | ⟨rfl, c1⟩ | ⟨rfl, rfl⟩
      all_goals
        rcases Int.lt_trichotomy tl mx with c2 | c2 | c2
        all_goals
          first | (obtain rfl := c2) | skip
          go_quiet (fail)
          go_wp2_with fail
          go_meet
          exact ⟨_, rfl, gwz, swz⟩
    case rest =>
    obtain ⟨x11, rfl, hgd, hsd⟩ := hcut
    obtain ⟨wF, rfl⟩ : ∃ W : World, W = wc := ⟨_, rfl⟩
    have hcF := gcell hgd
    have hfF := gfroz hgd
    have zF := hgd.size
    have HBG := hide (below_gr HBE.out hgd (by omega) gl)
    have HoG9 := hide (HoE9.out.grown hgd sz12)
    have HoG8 := hide (HoE8.out.grown hgd sz2)
    have w0 : wF.cell? ⟨w3.heap.size, 0, none⟩ = some (.slice so9 n9 cap9) := (hcF _ _ y3 ng3).trans v0
    have w1' : wF.cell? ⟨w3.heap.size + 1, 0, none⟩ = some (.slice so8 (m + 1) cap8) := (hcF _ _ y4 ng4).trans v1'
    have rk0_0 := (hcF _ _ y0 g0).trans ri0_0
    have rl0_0 := (hfF _ _ y0 g0).trans rj0_0
    have rk0_1 := (hcF _ _ y0 g0).trans ri0_1
    have rl0_1 := (hfF _ _ y0 g0).trans rj0_1
    have rk1_0 := (hcF _ _ y1 g1).trans ri1_0
    have rl1_0 := (hfF _ _ y1 g1).trans rj1_0
    have rk2_0 := (hcF _ _ y2 g2).trans ri2_0
    have rl2_0 := (hfF _ _ y2 g2).trans rj2_0
    have x0 : w.heap.size < wF.heap.size := by omega
    have x1 : w.heap.size + 1 < wF.heap.size := by omega
    have x2 : w.heap.size + 1 + 1 < wF.heap.size := by omega
    have x3 : w3.heap.size < wF.heap.size := by omega
    have x5 : w3.heap.size + 1 < wF.heap.size := by omega
    clear hcF hfF hgd HBE HoE9 HoE8 v0 v1' ri0_0 rj0_0 ri0_1 rj0_1 ri1_0 rj1_0 ri2_0 rj2_0 hsc f0 f1 v2' hbo hbc htf htl wem hb8
    go_upto_region 6 with fail
    have hgB := World.grownBy.refl wF (some g)
    have HwE : World.grownBy wF wF (some g) := gwz
    have HcE0 : World.cell? wF ⟨w3.heap.size, 0, none⟩ = some (.slice so9 n9 cap9) := (by go_simp)
    have HcE1 : World.cell? wF ⟨w3.heap.size + 1, 0, none⟩ = some (.slice so8 (m + 1) cap8) := (by go_simp)
    refine wp_region_held_drew (S := fun W => W.cell? ⟨w3.heap.size, 0, none⟩ = some (.slice so9 n9 cap9) ∧ W.cell? ⟨w3.heap.size + 1, 0, none⟩ = some (.slice so8 (m + 1) cap8) ∧ True) (by kernel_rfl) ⟨HcE0, HcE1, trivial⟩ (fun hHeld => ?_)
    refine tkD 0 (some 53) rfl ?_; (try simp only [pz])
    refine tkD 2 (some 55) rfl ?_; (try simp only [pz])
    refine tkD 3 (some 56) rfl ?_; (try simp only [pz])
    refine tkD 4 (some 57) rfl ?_; (try simp only [pz])
    refine tkD 5 (some 58) rfl ?_; (try simp only [pz])
    refine tkD 8 (some 61) rfl ?_; (try simp only [pz])
    refine wpAnyH_inv3 (fuel := 6) [1, 6, 9] [7] [54, 59, 60, 62] (fun u L W => (World.grownBy wF W (some g) ∧ Src W g) ∧ (L 1 → FAgg2 (u 54)) ∧ (L 6 → FInt (u 59)) ∧ (L 7 → FInt (u 60)) ∧ (L 9 → FInt (u 62)) ∧ True) (by decide) (by kernel_rfl) (by kernel_rfl) (fun _ _ _ _ _ h => h) (fun u L W hJ => ⟨cell_grown hJ.1.1 (by omega) HcE0, cell_grown hJ.1.1 (by omega) HcE1, trivial⟩) (fun u L hL => ⟨⟨gr_drew (World.grownBy.refl _ _), by assumption⟩, fun k => absurd k (hL 1 (by decide)), fun k => absurd k (hL 6 (by decide)), fun k => absurd k (hL 7 (by decide)), fun k => absurd k (hL 9 (by decide)), trivial⟩) ?_ ?_ ?_
    · refine StepsH.cons (d := 54) (o := ⟨some 54, _, _, _, _, _⟩) rfl rfl (by kernel_rfl) ?_ ?_
      rotate_left
      refine StepsH.cons (d := 59) (o := ⟨some 59, _, _, _, _, _⟩) rfl rfl (by kernel_rfl) ?_ ?_
      rotate_left
      refine StepsH.cons (d := 62) (o := ⟨some 62, _, _, _, _, _⟩) rfl rfl (by kernel_rfl) ?_ ?_
      rotate_left
      exact StepsH.nil
      · intro u L W hn hd hJ
        obtain ⟨hk, f54, f59, f60, f62, _⟩ := hJ
        have hnd := hk.2
        intro K hK
        simp only [puts, pz]
        go_simp; (first | (go_at_call 15; (with_reducible refine (spec_l08DrawAny g _ hnd).mono ?_); rintro e w9 ⟨⟨xx, yy, rfl⟩, hg, hs⟩) | (go_at_call 14; (with_reducible refine (spec_l01Next g _ _ hnd (by decide)).mono ?_); rintro e w9 ⟨⟨xx, rfl, hxx⟩, hg, hs⟩) | (go_at_call 16; (with_reducible refine (spec_l10DrawSpan g _ hnd).mono ?_); rintro e w9 ⟨⟨xx, rfl⟩, hg, hs⟩))
        all_goals (try go_wp2_with fail)
        all_goals
          apply Shut.go3 (W := W) (g := g) hK
          · simp only [puts, pz]; rfl
          · first | with_reducible assumption | with_reducible exact World.grownBy.refl _ _ | exact World.grownBy_alloc _ _ _
          · first | with_reducible assumption | exact Src.alloc hnd _
          · intro hg hs; exact ⟨Dr.step hk hg hs, fun _ => by rw [upd_same]; exact ⟨_, _, rfl⟩, fun k => by rw [upd_ne u _ (by decide)]; exact (f59 (k.resolve_left (by decide))), fun k => by rw [upd_ne u _ (by decide)]; exact (f60 (k.resolve_left (by decide))), fun k => by rw [upd_ne u _ (by decide)]; exact (f62 (k.resolve_left (by decide))), trivial⟩
      · intro u L W hn hd hJ
        obtain ⟨hk, f54, f59, f60, f62, _⟩ := hJ
        have hnd := hk.2
        intro K hK
        simp only [puts, pz]
        go_simp; (first | (go_at_call 15; (with_reducible refine (spec_l08DrawAny g _ hnd).mono ?_); rintro e w9 ⟨⟨xx, yy, rfl⟩, hg, hs⟩) | (go_at_call 14; (with_reducible refine (spec_l01Next g _ _ hnd (by decide)).mono ?_); rintro e w9 ⟨⟨xx, rfl, hxx⟩, hg, hs⟩) | (go_at_call 16; (with_reducible refine (spec_l10DrawSpan g _ hnd).mono ?_); rintro e w9 ⟨⟨xx, rfl⟩, hg, hs⟩))
        all_goals (try go_wp2_with fail)
        all_goals
          apply Shut.go3 (W := W) (g := g) hK
          · simp only [puts, pz]; rfl
          · first | with_reducible assumption | with_reducible exact World.grownBy.refl _ _ | exact World.grownBy_alloc _ _ _
          · first | with_reducible assumption | exact Src.alloc hnd _
          · intro hg hs; exact ⟨Dr.step hk hg hs, fun k => by rw [upd_ne u _ (by decide)]; exact (f54 (k.resolve_left (by decide))), fun _ => by rw [upd_same]; exact ⟨_, rfl⟩, fun k => by rw [upd_ne u _ (by decide)]; exact (f60 (k.resolve_left (by decide))), fun k => by rw [upd_ne u _ (by decide)]; exact (f62 (k.resolve_left (by decide))), trivial⟩
      · intro u L W hn hd hJ
        obtain ⟨hk, f54, f59, f60, f62, _⟩ := hJ
        have hnd := hk.2
        intro K hK
        simp only [puts, pz]
        go_simp; (first | (go_at_call 15; (with_reducible refine (spec_l08DrawAny g _ hnd).mono ?_); rintro e w9 ⟨⟨xx, yy, rfl⟩, hg, hs⟩) | (go_at_call 14; (with_reducible refine (spec_l01Next g _ _ hnd (by decide)).mono ?_); rintro e w9 ⟨⟨xx, rfl, hxx⟩, hg, hs⟩) | (go_at_call 16; (with_reducible refine (spec_l10DrawSpan g _ hnd).mono ?_); rintro e w9 ⟨⟨xx, rfl⟩, hg, hs⟩))
        all_goals (try go_wp2_with fail)
        all_goals
          apply Shut.go3 (W := W) (g := g) hK
          · simp only [puts, pz]; rfl
          · first | with_reducible assumption | with_reducible exact World.grownBy.refl _ _ | exact World.grownBy_alloc _ _ _
          · first | with_reducible assumption | exact Src.alloc hnd _
          · intro hg hs; exact ⟨Dr.step hk hg hs, fun k => by rw [upd_ne u _ (by decide)]; exact (f54 (k.resolve_left (by decide))), fun k => by rw [upd_ne u _ (by decide)]; exact (f59 (k.resolve_left (by decide))), fun k => by rw [upd_ne u _ (by decide)]; exact (f60 (k.resolve_left (by decide))), fun _ => by rw [upd_same]; exact ⟨_, rfl⟩, trivial⟩
    · refine PuresH.cons (d := 60) (o := ⟨some 60, _, _, _, _, _⟩) rfl rfl (by kernel_rfl) (by kernel_rfl) ?_ ?_
      rotate_left
      exact PuresH.nil
      · intro u L W hn hd hJ
        obtain ⟨hk, f54, f59, f60, f62, _⟩ := hJ
        have hnd := hk.2
        obtain ⟨x59, e59⟩ := f59 (hd 6 (by kernel_rfl))
        simp only [puts, pz, e59]
        refine ⟨?_, Or.inl ⟨by kernel_rfl, ?_⟩, ?_⟩; rotate_left; focus (intro W0 hSw; (try dsimp only at hSw); go_simp; (try with_reducible rfl))
        exact ⟨hk, fun k => by rw [upd_ne u _ (by decide)]; exact (f54 (k.resolve_left (by decide))), fun k => by rw [upd_ne u _ (by decide)]; exact (f59 (k.resolve_left (by decide))), fun _ => by rw [upd_same]; exact ⟨_, rfl⟩, fun k => by rw [upd_ne u _ (by decide)]; exact (f62 (k.resolve_left (by decide))), trivial⟩
    · intro u L W hJ hL
      obtain ⟨hk, f54, f59, f60, f62, _⟩ := hJ
      obtain ⟨x54_0, x54_1, e54⟩ := f54 (hL 1 (by kernel_rfl))
      obtain ⟨x59, e59⟩ := f59 (hL 6 (by kernel_rfl))
      obtain ⟨x60, e60⟩ := f60 (hL 7 (by kernel_rfl))
      obtain ⟨x62, e62⟩ := f62 (hL 9 (by kernel_rfl))
      clear hHeld; have hcW := gcell hk.1; have hfW := gfroz hk.1; have hHeld := trivial; have lW := hk.1.size
      clear f54
      clear f59
      clear f60
      clear f62
      simp only [puts, pz, setAll, Array.replicate, e54, e59, e60, e62]
      refine wpAnyH_ready (rs := [10]) (by kernel_rfl) (by simp) ?_; refine (AllReadyH.cons (o := ⟨none, _, _, _, _, _⟩) rfl (fun K hK => ?_) AllReadyH.nil)
      go_simp
      all_goals (try go_wp2_with fail)
      refine hK.out _ _ ?_ (fun hH2 => ?_)
      · exact ⟨(by go_simp; done), (by go_simp; done), trivial⟩
      clear hK K hHeld; (have hHeld := hH2.2.2); clear hH2; (try simp only [Act.put])
      refine wpAnyH_ready (rs := [11]) (by kernel_rfl) (by simp) ?_; refine (AllReadyH.cons (o := ⟨none, _, _, _, _, _⟩) rfl (fun K hK => ?_) AllReadyH.nil)
      go_simp
      all_goals (try go_wp2_with fail)
      refine hK.out _ _ ?_ (fun hH2 => ?_)
      · exact ⟨(by go_simp; done), (by go_simp; done), trivial⟩
      clear hK K hHeld; (have hHeld := hH2.2.2); clear hH2; (try simp only [Act.put])
      refine wpAnyH_ready (rs := [12]) (by kernel_rfl) (by simp) ?_; refine (AllReadyH.cons (o := ⟨none, _, _, _, _, _⟩) rfl (fun K hK => ?_) AllReadyH.nil)
      go_simp
      all_goals (try go_wp2_with fail)
      refine hK.out _ _ ?_ (fun hH2 => ?_)
      · exact ⟨(by go_simp; done), (by go_simp; done), trivial⟩
      clear hK K hHeld; (have hHeld := hH2.2.2); clear hH2; (try simp only [Act.put])
      refine wpAnyH_ready (rs := [13]) (by kernel_rfl) (by simp) ?_; refine (AllReadyH.cons (o := ⟨some 5, _, _, _, _, _⟩) rfl (fun K hK => ?_) AllReadyH.nil)
      go_simp
      all_goals (try go_wp2_with fail)
      refine hK.out _ _ ?_ (fun hH2 => ?_)
      · exact ⟨(by go_simp; done), (by go_simp; done), trivial⟩
      clear hK K hHeld; (have hHeld := hH2.2.2); clear hH2; (try simp only [Act.put])
      refine wpAnyH_ready (rs := [14]) (by kernel_rfl) (by simp) ?_; refine (AllReadyH.cons (o := ⟨some 6, _, _, _, _, _⟩) rfl (fun K hK => ?_) AllReadyH.nil)
      go_simp
      all_goals (try go_wp2_with fail)
      refine hK.out _ _ ?_ (fun hH2 => ?_)
      · exact ⟨(by go_simp; done), (by go_simp; done), trivial⟩
      clear hK K hHeld; (have hHeld := hH2.2.2); clear hH2; (try simp only [Act.put])
      refine wpAnyH_ready (rs := [15]) (by kernel_rfl) (by simp) ?_; refine (AllReadyH.cons (o := ⟨some 7, _, _, _, _, _⟩) rfl (fun K hK => ?_) AllReadyH.nil)
      go_simp
      all_goals (try go_wp2_with fail)
      refine hK.out _ _ ?_ (fun hH2 => ?_)
      · exact ⟨(by go_simp; done), (by go_simp; done), trivial⟩
      clear hK K hHeld; (have hHeld := hH2.2.2); clear hH2; (try simp only [Act.put])
      refine wpAnyH_done (by kernel_rfl) ?_ _; (try simp only [pz])
      have HoF9 := hide (HoG9.out.grown hk.1 (by omega))
      have HoF8 := hide (HoG8.out.grown hk.1 (by omega))
      have zE := hk.1.size
      have HBF := below_gr HBG.out hk.1 (by omega) gl
      go_wp2
      simp [bodyPost, results, Try.results5, go_sem, *]
      exact ⟨⟨_, _, _, _, _, _, _, _, q3 L9 0, q3 L9 1, q3 L9 2, _, _, _, q3 L8 0, q3 L8 1, q3 L8 2, rfl, q2, r2, (OwnI.far (OwnI.far (OwnI.far (OwnI.far HoF9.out (by omega)) (by omega)) (by omega)) (by omega)).row3, (OwnI.far (OwnI.far (OwnI.far (OwnI.far HoF8.out (by omega)) (by omega)) (by omega)) (by omega)).row3⟩, bwz⟩
end Go.Proofs.Ytndlpoffpcpnkaa
