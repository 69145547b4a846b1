/- Walks: tracks are drawn. -/
import Derived.Test.YthlnpcneicmblaaGreatDoorDn
import Derived.Test.YthlnpcneicmblaaGreatDoorIv
import Derived.Test.YthlnpcneicmblaaGreatDoorKp
namespace Go.Proofs.YthlnpcneicmblaaGreatDoor
open Go.RowKit

/-- What a draw of a track returns: from lo to hi fixes, in memory of the call's own; no time is beyond M. -/
def TrC (lo hi : Nat) (M : Int) (w : World) (g : Nat) (e : Ending) (w' : World) : Prop :=
 (∃ (so : Option Addr) (n cap : Nat) (L : List Int), e = .returned (.agg #[.slice so n cap]) ∧ lo ≤ n ∧ n ≤ hi ∧ n ≤ cap ∧ OwnI 3 M w' w.heap.size L n so) ∧ w.grownBy w' (some g) ∧ Src w' g
theorem gr_belowB {w W W' : World} {r : Option Nat} (h : w.grownBy W r) (hb : Below w.heap.size W W') : w.grownBy W' r :=
 ⟨hb.os.trans h.os, hb.tape.trans h.tape, hb.output.trans h.output, Nat.le_trans h.size hb.size, fun k hk hr => (hb.block k hk).trans (h.block k hk hr)⟩
theorem own_far {w : World} {B : Nat} {e : TypeId} {size : Nat} {v x : Value} {n : Nat} {xs : List Value} {b j : Nat} (h : w.ownsRow B e size v n xs) (hb : b < B) : (w.setCell ⟨b, j, none⟩ x).ownsRow B e size v n xs :=
 h.kept (gr_set (g := b) ⟨rfl, rfl, rfl, Nat.le_refl _, fun _ _ _ => rfl⟩) (by
  rcases hv : v.ownBlock with _ | k
  ·exact .inl rfl
  ·have := (h.lt k hv).1
   exact .inr (by simp; omega))
theorem OwnI.far {c : Nat} {M : Int} {w : World} {B : Nat} {L : List Int} {n : Nat} {so : Option Addr} {b j : Nat} {x : Value} (h : OwnI c M w B L n so) (hb : b < B) : OwnI c M (w.setCell ⟨b, j, none⟩ x) B L n so := by
 obtain ⟨h0, hM, ⟨rfl, h2⟩ | ⟨g', rfl, h3, h4, h5⟩⟩ := h
 ·exact ⟨h0, hM, .inl ⟨rfl, h2⟩⟩
 ·refine ⟨h0, hM, .inr ⟨g', rfl, h3, by simpa [World.setCell] using h4, fun k hk => ⟨?_, by rw [World.frozen?_setCell]; exact (h5 k hk).2⟩⟩⟩
  exact cell_set (h5 k hk).1 (by simp; omega)
theorem one3 (a b c : Int) : ∀ u ∈ [Value.int .i64 a, Value.int .i64 b, Value.int .i64 c], u.oneCell' = true := fun u hu => by
 simp at hu; rcases hu with rfl | rfl | rfl <;> rfl
theorem tl_app {L : List Int} {q : Nat} {M T a b : Int} (hl : L.length = q * 3) (h : ∀ i, i < q → -M ≤ L[i * 3]?.getD 0 ∧ L[i * 3]?.getD 0 ≤ M) (hT : -M ≤ T ∧ T ≤ M) : ∀ i, i < q + 1 → -M ≤ (L ++ [T, a, b])[i * 3]?.getD 0 ∧ (L ++ [T, a, b])[i * 3]?.getD 0 ≤ M := by
 intro i hi
 by_cases e : i = q
 ·subst e
  rw [List.getElem?_append_right (by omega), show i * 3 - L.length = 0 by omega]
  exact hT
 ·rw [List.getElem?_append_left (by omega)]; exact h i (by omega)
theorem infoFix : (Tryz.prog.info? 68).map (fun i => (i.zero, i.size, i.bytes)) = some (some (.agg #[.int .i64 0, .int .i64 0, .int .i64 0]), 3, 24) := by kernel_rfl
set_option maxRecDepth 100000 in
set_option maxHeartbeats 8000000 in
theorem spec_l03DrawFrom (g : Nat) (time : Int) (w : World) (h : Src w g) (ht : 0 ≤ time ∧ time ≤ 500) : Calls Tryz.prog 55 #[.pointer (some ⟨g, 0, none⟩), .int .i64 time] w (TrC 2 8 20000 w g) := by
 have ng := Src.lt h
 have nz0 : ¬ w.heap.size = g := by omega
 have nz1 : ¬ g = w.heap.size := by omega
 obtain ⟨i0, hi, hz0, hz1, hz2⟩ := info_parts infoFix
 have Hi := hide hi
 have Hz := hide (And.intro hz0 (And.intro hz1 hz2))
 clear hi hz0 hz1 hz2
 go_enter Tryz.func55, Tryz.ntmps55
 go_wp2_with fail; (with_reducible refine (spec_l01DrawPoint g _ swz).mono ?_); rintro e w1 ⟨⟨px, py, rfl⟩, hg1, hs1⟩; have hc1 := gcell hg1; have hf1 := gfroz hg1; have lg1 := Src.lt hs1; have nga1 : ¬ w1.heap.size = g := (by omega); have ngb1 : ¬ g = w1.heap.size := (by omega); have hzs1 := hg1.size; (try simp at hzs1); have zx1_0 : w.heap.size < w1.heap.size := (by first | omega | (simp at hzs1; omega)); have zy1_0 : w.heap.size < w1.heap.size + 1 := (by omega); have zw1_0 : ¬ w1.heap.size = w.heap.size := (by omega); have zv1_0 : ¬ w.heap.size = w1.heap.size := (by omega); have zu1_0 : w.heap.size < w1.heap.size + 1 + 1 := (by omega); have zt1_0 : ¬ w1.heap.size + 1 = w.heap.size := (by omega); have zr1_0 : ¬ w.heap.size = w1.heap.size + 1 := (by omega)
 have ng2 : ¬ w1.heap.size + 1 = g := by omega
 have ng3 : ¬ w1.heap.size + 1 + 1 = g := by omega
 have G1 := hide (show w.grownBy w1 (some g) from gwz)
 have u0 : w1.cell? ⟨w.heap.size, 0, none⟩ = some (.slice none 0 0) := by go_simp
 have u1 : w1.frozen? ⟨w.heap.size, 0, none⟩ = false := by go_simp
 clear hc1 hf1 hg1
 go_wp2_with fail; (with_reducible refine (spec_l01NextN g 3 3 _ swz (by decide) (by decide) (by decide)).mono ?_); rintro e w2 ⟨⟨x2, rfl, hx2⟩, hg2, hs2⟩; have hc2 := gcell hg2; have hf2 := gfroz hg2; have lg2 := Src.lt hs2; have nga2 : ¬ w2.heap.size = g := (by omega); have ngb2 : ¬ g = w2.heap.size := (by omega); have hzs2 := hg2.size; (try simp at hzs2); have zx2_0 : w.heap.size < w2.heap.size := (by first | omega | (simp at hzs2; omega)); have zy2_0 : w.heap.size < w2.heap.size + 1 := (by omega); have zw2_0 : ¬ w2.heap.size = w.heap.size := (by omega); have zv2_0 : ¬ w.heap.size = w2.heap.size := (by omega); have zu2_0 : w.heap.size < w2.heap.size + 1 + 1 := (by omega); have zt2_0 : ¬ w2.heap.size + 1 = w.heap.size := (by omega); have zr2_0 : ¬ w.heap.size = w2.heap.size + 1 := (by omega); have zx2_1 : w1.heap.size < w2.heap.size := (by first | omega | (simp at hzs2; omega)); have zy2_1 : w1.heap.size < w2.heap.size + 1 := (by omega); have zw2_1 : ¬ w2.heap.size = w1.heap.size := (by omega); have zv2_1 : ¬ w1.heap.size = w2.heap.size := (by omega); have zu2_1 : w1.heap.size < w2.heap.size + 1 + 1 := (by omega); have zt2_1 : ¬ w2.heap.size + 1 = w1.heap.size := (by omega); have zr2_1 : ¬ w1.heap.size = w2.heap.size + 1 := (by omega); have zx2_2 : w1.heap.size + 1 < w2.heap.size := (by first | omega | (simp at hzs2; omega)); have zy2_2 : w1.heap.size + 1 < w2.heap.size + 1 := (by omega); have zw2_2 : ¬ w2.heap.size = w1.heap.size + 1 := (by omega); have zv2_2 : ¬ w1.heap.size + 1 = w2.heap.size := (by omega); have zu2_2 : w1.heap.size + 1 < w2.heap.size + 1 + 1 := (by omega); have zt2_2 : ¬ w2.heap.size + 1 = w1.heap.size + 1 := (by omega); have zr2_2 : ¬ w1.heap.size + 1 = w2.heap.size + 1 := (by omega); have zx2_3 : w1.heap.size + 1 + 1 < w2.heap.size := (by first | omega | (simp at hzs2; omega)); have zy2_3 : w1.heap.size + 1 + 1 < w2.heap.size + 1 := (by omega); have zw2_3 : ¬ w2.heap.size = w1.heap.size + 1 + 1 := (by omega); have zv2_3 : ¬ w1.heap.size + 1 + 1 = w2.heap.size := (by omega); have zu2_3 : w1.heap.size + 1 + 1 < w2.heap.size + 1 + 1 := (by omega); have zt2_3 : ¬ w2.heap.size + 1 = w1.heap.size + 1 + 1 := (by omega); have zr2_3 : ¬ w1.heap.size + 1 + 1 = w2.heap.size + 1 := (by omega)
 have hi1 : (0 : Int) ≤ (x2 : Int) := by omega
 have hi2 : (x2 : Int) < 3 := by omega
 obtain ⟨wd, hw1, hw2, hwc⟩ : ∃ wd : Int, 2 ≤ wd ∧ wd ≤ 301 ∧ w2.cell? ⟨w1.heap.size + 1 + 1, x2, none⟩ = some (.int .i64 wd) := by
  rcases (by omega : x2 = 0 ∨ x2 = 1 ∨ x2 = 2) with rfl | rfl | rfl
  ·exact ⟨9, by decide, by decide, by go_simp⟩
  ·exact ⟨61, by decide, by decide, by go_simp⟩
  ·exact ⟨301, by decide, by decide, by go_simp⟩
 have k0 : w2.cell? ⟨w1.heap.size, 0, none⟩ = some (.int .i64 px) := by go_simp
 have k1 : w2.cell? ⟨w1.heap.size, 1, none⟩ = some (.int .i64 py) := by go_simp
 have k2 : w2.frozen? ⟨w1.heap.size, 0, none⟩ = false := by go_simp
 have k3 : w2.frozen? ⟨w1.heap.size, 1, none⟩ = false := by go_simp
 have k4 : w2.cell? ⟨w.heap.size, 0, none⟩ = some (.slice none 0 0) := by go_simp
 have k5 : w2.frozen? ⟨w.heap.size, 0, none⟩ = false := by go_simp
 have hO2 := hide (own_kept ((World.ownsRow_made (base := w1.heap.size + 1) (e := 68) (size := 3) (w1.alloc (Obj.cells #[Value.int .i64 px, Value.int .i64 py] 26)) #[] 0 (by simp) (by decide) rfl).alloc (Obj.cells #[Value.int .i64 9, Value.int .i64 61, Value.int .i64 301] 2)) hg2 (by omega))
 have G2 := hide (gr_step (show w.grownBy _ (some g) from gr_alloc (gr_alloc (gr_alloc G1.out _) _) _) hg2)
 clear hc2 hf2 hg2 u0 u1
 go_wp2_with fail; (with_reducible refine (spec_l01NextN g 7 7 _ swz (by decide) (by decide) (by decide)).mono ?_); rintro e w3 ⟨⟨x3, rfl, hx3⟩, hg3, hs3⟩; have hc3 := gcell hg3; have hf3 := gfroz hg3; have lg3 := Src.lt hs3; have nga3 : ¬ w3.heap.size = g := (by omega); have ngb3 : ¬ g = w3.heap.size := (by omega); have hzs3 := hg3.size; (try simp at hzs3); have zx3_0 : w.heap.size < w3.heap.size := (by first | omega | (simp at hzs3; omega)); have zy3_0 : w.heap.size < w3.heap.size + 1 := (by omega); have zw3_0 : ¬ w3.heap.size = w.heap.size := (by omega); have zv3_0 : ¬ w.heap.size = w3.heap.size := (by omega); have zu3_0 : w.heap.size < w3.heap.size + 1 + 1 := (by omega); have zt3_0 : ¬ w3.heap.size + 1 = w.heap.size := (by omega); have zr3_0 : ¬ w.heap.size = w3.heap.size + 1 := (by omega); have zx3_1 : w1.heap.size < w3.heap.size := (by first | omega | (simp at hzs3; omega)); have zy3_1 : w1.heap.size < w3.heap.size + 1 := (by omega); have zw3_1 : ¬ w3.heap.size = w1.heap.size := (by omega); have zv3_1 : ¬ w1.heap.size = w3.heap.size := (by omega); have zu3_1 : w1.heap.size < w3.heap.size + 1 + 1 := (by omega); have zt3_1 : ¬ w3.heap.size + 1 = w1.heap.size := (by omega); have zr3_1 : ¬ w1.heap.size = w3.heap.size + 1 := (by omega); have zx3_2 : w1.heap.size + 1 < w3.heap.size := (by first | omega | (simp at hzs3; omega)); have zy3_2 : w1.heap.size + 1 < w3.heap.size + 1 := (by omega); have zw3_2 : ¬ w3.heap.size = w1.heap.size + 1 := (by omega); have zv3_2 : ¬ w1.heap.size + 1 = w3.heap.size := (by omega); have zu3_2 : w1.heap.size + 1 < w3.heap.size + 1 + 1 := (by omega); have zt3_2 : ¬ w3.heap.size + 1 = w1.heap.size + 1 := (by omega); have zr3_2 : ¬ w1.heap.size + 1 = w3.heap.size + 1 := (by omega)
 have v0 : w3.cell? ⟨w1.heap.size, 0, none⟩ = some (.int .i64 px) := by go_simp
 have v1 : w3.cell? ⟨w1.heap.size, 1, none⟩ = some (.int .i64 py) := by go_simp
 have v2 : w3.frozen? ⟨w1.heap.size, 0, none⟩ = false := by go_simp
 have v3 : w3.frozen? ⟨w1.heap.size, 1, none⟩ = false := by go_simp
 have v4 : w3.cell? ⟨w.heap.size, 0, none⟩ = some (.slice none 0 0) := by go_simp
 have v5 : w3.frozen? ⟨w.heap.size, 0, none⟩ = false := by go_simp
 have hO3 := own_kept hO2.out hg3 (by omega)
 have G3 := hide (gr_step G2.out hg3)
 simp only [size_al] at hO3
 have Hown := hide hO3
 have HS3 := hide hs3
 clear hO2 hO3 k0 k1 k2 k3 k4 k5 hwc hc3 hf3 hg3
 go_wp2
 go_loopw [1, 6, 8] (fun t v i wr => ∃ (k q : Nat) (T ax ay : Int) (L : List Int), t = .int .i64 T ∧ i = .int .i64 (k : Int) ∧ k + q = x3 + 2 ∧ L.length = q * 3 ∧ 0 ≤ T ∧ T ≤ 500 + 2000 * (q : Int) ∧ Hid (∀ i, i < q → -20000 ≤ L[i * 3]?.getD 0 ∧ L[i * 3]?.getD 0 ≤ 20000) ∧ Hid (wr.ownsRow (w1.heap.size + 1) 68 3 v q (L.map (Value.int .i64))) ∧ Hid (Src wr g) ∧ wr.cell? ⟨w1.heap.size, 0, none⟩ = some (.int .i64 ax) ∧ wr.cell? ⟨w1.heap.size, 1, none⟩ = some (.int .i64 ay) ∧ wr.frozen? ⟨w1.heap.size, 0, none⟩ = false ∧ wr.frozen? ⟨w1.heap.size, 1, none⟩ = false ∧ wr.cell? ⟨w.heap.size, 0, none⟩ = some (.slice none 0 0) ∧ wr.frozen? ⟨w.heap.size, 0, none⟩ = false ∧ Hid (w.grownBy wr (some g)) ∧ w3.heap.size ≤ wr.heap.size) (fun _ _ i _ => (intOf i).toNat)
 case atStart => exact ⟨x3 + 2, 0, time, px, py, [], rfl, by go_num, by omega, rfl, by omega, by simp; omega, hide (fun i hi => absurd hi (by omega)), Hown, HS3, v0, v1, v2, v3, v4, v5, G3, Nat.le_refl _⟩
 case round =>
  clear v0 v1 v2 v3 v4 v5
  obtain ⟨k, q, T, ax, ay, L, rfl, rfl, hkq, hl, hT0, hT1, HM, HO, HS, c0, c1, c2, c3, c4, c5, HG, hsz⟩ := hrel
  have lgr := Src.lt HS.out
  have zr0 : w.heap.size < wr.heap.size := by omega
  have zr1 : w1.heap.size < wr.heap.size := by omega
  have zr2 : w1.heap.size + 1 < wr.heap.size := by omega
  cases k with
  | succ k =>
   go_wp2_with (at_builtin; refine wpList_append_own _ rfl _ _ 43 rfl (w1.heap.size + 1) 68 i0 _ 3 24 Tryz.underlying43 Hi.out Hz.out.1 Hz.out.2.1 Hz.out.2.2 rfl (by decide) _ _ _ rfl (HO.out.alloc _) ⟨wr.heap.size, 0, none⟩ 1 1 [.int .i64 T, .int .i64 ax, .int .i64 ay] rfl rfl new3 (one3 _ _ _) (by unfold maxLen; omega) (by omega) (by simp; omega) ?_)
   intro v' wA hown' hgrow _
   have hb := below_grown HO.out (by omega) hgrow
   have hsA := hb.size
   have HOA := hide (show wA.ownsRow (w1.heap.size + 1) 68 3 v' (q + 1) ((L ++ [T, ax, ay]).map (Value.int .i64)) by rw [List.map_append]; exact hown')
   have hSA := Src.keepB (hb.mono (by omega)) HS.out
   have hGA := gr_belowB HG.out (hb.mono (by omega))
   have m0 := cell_below hb (by omega) c0
   have m1 := cell_below hb (by omega) c1
   have m2 := ((bcell hb).2 _ _ (by omega)).trans c2
   have m3 := ((bcell hb).2 _ _ (by omega)).trans c3
   have m4 := cell_below hb (by omega) c4
   have m5 := ((bcell hb).2 _ _ (by omega)).trans c5
   have HMA := hide (tl_app (a := ax) (b := ay) hl HM.out (T := T) (by omega))
   have hlA : (L ++ [T, ax, ay]).length = (q + 1) * 3 := by simp; omega
   generalize L ++ [T, ax, ay] = LA at *
   have zA0 : w.heap.size < wA.heap.size := by omega
   have zA1 : w1.heap.size < wA.heap.size := by omega
   clear hgrow hown' hb c0 c1 c2 c3 c4 c5 HO HG HS HM hl
   go_wp2_with fail; (with_reducible refine (spec_l01Next g _ _ swz (by decide)).mono ?_); rintro e w5 ⟨⟨x5, rfl, hx5⟩, hg5, hs5⟩; have hc5 := gcell hg5; have hf5 := gfroz hg5; have lg5 := Src.lt hs5; have nga5 : ¬ w5.heap.size = g := (by omega); have ngb5 : ¬ g = w5.heap.size := (by omega); have hzs5 := hg5.size; (try simp at hzs5); have zx5_0 : w.heap.size < w5.heap.size := (by first | omega | (simp at hzs5; omega)); have zy5_0 : w.heap.size < w5.heap.size + 1 := (by omega); have zw5_0 : ¬ w5.heap.size = w.heap.size := (by omega); have zv5_0 : ¬ w.heap.size = w5.heap.size := (by omega); have zu5_0 : w.heap.size < w5.heap.size + 1 + 1 := (by omega); have zt5_0 : ¬ w5.heap.size + 1 = w.heap.size := (by omega); have zr5_0 : ¬ w.heap.size = w5.heap.size + 1 := (by omega); have zx5_1 : w1.heap.size < w5.heap.size := (by first | omega | (simp at hzs5; omega)); have zy5_1 : w1.heap.size < w5.heap.size + 1 := (by omega); have zw5_1 : ¬ w5.heap.size = w1.heap.size := (by omega); have zv5_1 : ¬ w1.heap.size = w5.heap.size := (by omega); have zu5_1 : w1.heap.size < w5.heap.size + 1 + 1 := (by omega); have zt5_1 : ¬ w5.heap.size + 1 = w1.heap.size := (by omega); have zr5_1 : ¬ w1.heap.size = w5.heap.size + 1 := (by omega)
   obtain ⟨p1, p2⟩ := hx5 (by decide)
   clear hx5
   have n0 : w5.cell? ⟨w1.heap.size, 0, none⟩ = some (.int .i64 ax) := by go_simp
   have n1 : w5.cell? ⟨w1.heap.size, 1, none⟩ = some (.int .i64 ay) := by go_simp
   have n2 : w5.frozen? ⟨w1.heap.size, 0, none⟩ = false := by go_simp
   have n3 : w5.frozen? ⟨w1.heap.size, 1, none⟩ = false := by go_simp
   have n4 : w5.cell? ⟨w.heap.size, 0, none⟩ = some (.slice none 0 0) := by go_simp
   have n5 : w5.frozen? ⟨w.heap.size, 0, none⟩ = false := by go_simp
   have HO5 := hide (own_kept HOA.out hg5 (by omega))
   have G5 := hide (gr_step hGA hg5)
   have z5 := hg5.size
   clear hc5 hf5 m0 m1 m2 m3 m4 m5 HOA
   have ww : IntKind.i64.wrap (1 + x5) = 1 + x5 := IntWalk.i64_in _ (by omega)
   have wt : IntKind.i64.wrap (T + (1 + x5)) = T + (1 + x5) := IntWalk.i64_in _ (by omega)
   go_upto_region 9 with fail
   obtain ⟨T', hT'⟩ : ∃ x, x = T + (1 + x5) := ⟨_, rfl⟩
   rw [← hT']
   have HT' := hide hT'
   clear hT' ww wt hg5 hGA hSA
   have hGE := G5.out
   have HwE : World.grownBy w w5 (some g) := gwz
   refine wp_region_held_drew (S := fun W => World.grownBy w W (some g) ∧ Src W g) (by kernel_rfl) ⟨gr_drew HwE, by assumption⟩ (fun hHeld => ?_)
   refine tkD 0 (some 38) rfl ?_; simp only [pz]
   refine tkD 2 (some 40) rfl ?_; simp only [pz]
   refine tkD 3 (some 41) rfl ?_; simp only [pz]
   refine tkD 6 (some 44) rfl ?_; simp only [pz]
   refine tkD 7 (some 45) rfl ?_; simp only [pz]
   refine wpAnyH_inv (fuel := 1) [1, 4, 5, 8, 9, 10, 11] [39, 42, 43, 46, 47, 48, 49] (fun u L W => (World.grownBy w5 W (some g) ∧ Src W g) ∧ (L 1 → (u 39) = (.int .i64 ax)) ∧ (L 4 → FInt (u 42)) ∧ (L 5 → FInt (u 43)) ∧ (L 8 → FInt (u 46)) ∧ (L 9 → FInt (u 47)) ∧ (L 10 → FInt (u 48)) ∧ (L 11 → (u 49) = (.pointer (some ⟨w1.heap.size, 0, none⟩))) ∧ True) (by decide) (by kernel_rfl) (fun u L W hJ => ⟨HwE.trans hJ.1.1, hJ.1.2⟩) (fun u L hL => ⟨⟨gr_drew (World.grownBy.refl _ _), by assumption⟩, fun k => absurd k (hL 1 (by decide)), fun k => absurd k (hL 4 (by decide)), fun k => absurd k (hL 5 (by decide)), fun k => absurd k (hL 8 (by decide)), fun k => absurd k (hL 9 (by decide)), fun k => absurd k (hL 10 (by decide)), fun k => absurd k (hL 11 (by decide)), trivial⟩) ?_ ?_
   ·refine sc1 39 ?_ ?_
    rotate_left
    refine sc1 42 ?_ ?_
    rotate_left
    refine sc1 43 ?_ ?_
    rotate_left
    refine sc1 46 ?_ ?_
    rotate_left
    refine sc1 47 ?_ ?_
    rotate_left
    refine sc1 48 ?_ ?_
    rotate_left
    refine sc1 49 ?_ ?_
    rotate_left
    exact StepsH.nil
    ·intro u L W hn hd hJ
     obtain ⟨hk, f39, f42, f43, f46, f47, f48, f49, _⟩ := hJ
     have hnd := hk.2
     have hcS := gcell hk.1
     intro K hK
     simp only [puts, pz]
     go_simp
     all_goals (try go_wp2_with fail)
     all_goals
      apply Shut.go3 (W := W) (g := g) hK
      ·simp only [puts, pz]; rfl
      ·exact gbz
      ·exact sbz
      ·intro hg hs; exact ⟨Dr.step hk hg hs, fun _ => upd_same _ _ _, unz f42, unz f43, unz f46, unz f47, unz f48, unz f49, trivial⟩
    ·intro u L W hn hd hJ
     obtain ⟨hk, f39, f42, f43, f46, f47, f48, f49, _⟩ := hJ
     have hnd := hk.2
     intro K hK
     simp only [puts, pz]
     go_simp; (go_at_call 14; (with_reducible refine (spec_l01Next g _ _ hnd (by omega)).mono ?_); rintro e w9 ⟨⟨xx, rfl, hxx⟩, hg, hs⟩)
     all_goals (try go_wp2_with fail)
     all_goals
      apply Shut.go3 (W := W) (g := g) hK
      ·simp only [puts, pz]; rfl
      ·exact gbz
      ·exact sbz
      ·intro hg hs; exact ⟨Dr.step hk hg hs, unz f39, fun _ => by rw [upd_same]; exact ⟨_, rfl⟩, unz f43, unz f46, unz f47, unz f48, unz f49, trivial⟩
    ·intro u L W hn hd hJ
     obtain ⟨hk, f39, f42, f43, f46, f47, f48, f49, _⟩ := hJ
     have hnd := hk.2
     obtain e39 := f39 (hd 1 (by kernel_rfl))
     obtain ⟨x42, e42⟩ := f42 (hd 4 (by kernel_rfl))
     intro K hK
     simp only [puts, pz, e39, e42]
     go_simp
     all_goals (try go_wp2_with fail)
     all_goals
      apply Shut.go3 (W := W) (g := g) hK
      ·simp only [puts, pz, e39, e42]; rfl
      ·exact gbz
      ·exact sbz
      ·intro hg hs; exact ⟨Dr.step hk hg hs, unz f39, unz f42, fun _ => by rw [upd_same]; exact ⟨_, rfl⟩, unz f46, unz f47, unz f48, unz f49, trivial⟩
    ·intro u L W hn hd hJ
     obtain ⟨hk, f39, f42, f43, f46, f47, f48, f49, _⟩ := hJ
     have hnd := hk.2
     obtain ⟨x43, e43⟩ := f43 (hd 5 (by kernel_rfl))
     intro K hK
     simp only [puts, pz, e43]
     go_simp
     all_goals (try go_wp2_with fail)
     all_goals
      apply Shut.go3 (W := W) (g := g) hK
      ·simp only [puts, pz, e43]; rfl
      ·exact gbz
      ·exact sbz
      ·intro hg hs; exact ⟨Dr.step hk hg hs, unz f39, unz f42, unz f43, fun _ => by rw [upd_same]; exact ⟨_, rfl⟩, unz f47, unz f48, unz f49, trivial⟩
    ·intro u L W hn hd hJ
     obtain ⟨hk, f39, f42, f43, f46, f47, f48, f49, _⟩ := hJ
     have hnd := hk.2
     obtain ⟨x46, e46⟩ := f46 (hd 8 (by kernel_rfl))
     intro K hK
     simp only [puts, pz, e46]
     go_simp
     all_goals (try go_wp2_with fail)
     all_goals
      apply Shut.go3 (W := W) (g := g) hK
      ·simp only [puts, pz, e46]; rfl
      ·exact gbz
      ·exact sbz
      ·intro hg hs; exact ⟨Dr.step hk hg hs, unz f39, unz f42, unz f43, unz f46, fun _ => by rw [upd_same]; exact ⟨_, rfl⟩, unz f48, unz f49, trivial⟩
    ·intro u L W hn hd hJ
     obtain ⟨hk, f39, f42, f43, f46, f47, f48, f49, _⟩ := hJ
     have hnd := hk.2
     obtain ⟨x47, e47⟩ := f47 (hd 9 (by kernel_rfl))
     intro K hK
     simp only [puts, pz, e47]
     go_simp
     all_goals (try go_wp2_with fail)
     all_goals
      apply Shut.go3 (W := W) (g := g) hK
      ·simp only [puts, pz, e47]; rfl
      ·exact gbz
      ·exact sbz
      ·intro hg hs; exact ⟨Dr.step hk hg hs, unz f39, unz f42, unz f43, unz f46, unz f47, fun _ => by rw [upd_same]; exact ⟨_, rfl⟩, unz f49, trivial⟩
    ·intro u L W hn hd hJ
     obtain ⟨hk, f39, f42, f43, f46, f47, f48, f49, _⟩ := hJ
     have hnd := hk.2
     intro K hK
     simp only [puts, pz]
     go_simp
     all_goals (try go_wp2_with fail)
     all_goals
      apply Shut.go3 (W := W) (g := g) hK
      ·simp only [puts, pz]; rfl
      ·exact gbz
      ·exact sbz
      ·intro hg hs; exact ⟨Dr.step hk hg hs, unz f39, unz f42, unz f43, unz f46, unz f47, unz f48, fun _ => upd_same _ _ _, trivial⟩
   ·intro u L W hJ hL
    obtain ⟨hk, f39, f42, f43, f46, f47, f48, f49, _⟩ := hJ
    obtain e39 := f39 (hL 1 (by kernel_rfl))
    obtain ⟨x42, e42⟩ := f42 (hL 4 (by kernel_rfl))
    obtain ⟨x43, e43⟩ := f43 (hL 5 (by kernel_rfl))
    obtain ⟨x46, e46⟩ := f46 (hL 8 (by kernel_rfl))
    obtain ⟨x47, e47⟩ := f47 (hL 9 (by kernel_rfl))
    obtain ⟨x48, e48⟩ := f48 (hL 10 (by kernel_rfl))
    obtain e49 := f49 (hL 11 (by kernel_rfl))
    clear hHeld; have hcW := gcell hk.1; have hfW := gfroz hk.1; have hHeld := And.intro (HwE.trans hk.1) hk.2; have lW := hk.1.size
    clear f39
    clear f42
    clear f43
    clear f46
    clear f47
    clear f48
    clear f49
    simp only [puts, pz, setAll, Array.replicate, e39, e42, e43, e46, e47, e48, e49]
    refine rd1 12 none rfl (fun K hK => ?_)
    go_simp
    all_goals (try go_wp2_with fail)
    refine hK.out _ _ ?_ (fun hH2 => ?_)
    ·have hHg := hHeld.1; have hHs := hHeld.2; exact ⟨gwz, swz⟩
    clear hK K hHeld; (have hHeld := hH2); clear hH2; (try simp only [Act.put])
    refine wpAnyH_done (by kernel_rfl) ?_ _; (try simp only [pz])
    obtain ⟨hgE, hsE⟩ := hHeld
    have HO6 := own_far (b := w1.heap.size) (j := 0) (x := .int .i64 x48) (own_kept HO5.out hk.1 (by omega)) (by omega)
    obtain ⟨wE, hE⟩ : ∃ x, x = W.setCell ⟨w1.heap.size, 0, none⟩ (.int .i64 x48) := ⟨_, rfl⟩
    have z6 := hk.1.size
    have zW0 : w.heap.size < W.heap.size := by omega
    have zW1 : w1.heap.size < W.heap.size := by omega
    have e0 : wE.cell? ⟨w1.heap.size, 0, none⟩ = some (.int .i64 x48) := by rw [hE]; go_simp
    have e1 : wE.cell? ⟨w1.heap.size, 1, none⟩ = some (.int .i64 ay) := by rw [hE]; go_simp
    have e2 : wE.frozen? ⟨w1.heap.size, 0, none⟩ = false := by rw [hE]; go_simp
    have e3 : wE.frozen? ⟨w1.heap.size, 1, none⟩ = false := by rw [hE]; go_simp
    have e4 : wE.cell? ⟨w.heap.size, 0, none⟩ = some (.slice none 0 0) := by rw [hE]; go_simp
    have e5 : wE.frozen? ⟨w.heap.size, 0, none⟩ = false := by rw [hE]; go_simp
    have GE : w.grownBy wE (some g) := by rw [hE]; exact hgE
    have SE : Src wE g := by rw [hE]; exact hsE
    have HO7 := hide (show wE.ownsRow (w1.heap.size + 1) 68 3 v' (q + 1) (LA.map (Value.int .i64)) by rw [hE]; exact HO6)
    have zE : W.heap.size = wE.heap.size := by rw [hE]; simp [World.setCell]
    rw [← hE]
    obtain ⟨y48, hy48⟩ : ∃ x, x = x48 := ⟨_, rfl⟩
    rw [← hy48] at e0 ⊢
    have zE0 : w.heap.size < wE.heap.size := by omega
    have zE1 : w1.heap.size < wE.heap.size := by omega
    clear hE HO6 hgE hsE hcW hfW hk HO5 n0 n1 n2 n3 n4 n5 hy48
    go_upto_region 10 with fail
    have HwE : World.grownBy w wE (some g) := gwz
    refine wp_region_held_drew (S := fun W => World.grownBy w W (some g) ∧ Src W g) (by kernel_rfl) ⟨gr_drew HwE, by assumption⟩ (fun hHeld => ?_)
    refine tkD 0 (some 50) rfl ?_; simp only [pz]
    refine tkD 2 (some 52) rfl ?_; simp only [pz]
    refine tkD 3 (some 53) rfl ?_; simp only [pz]
    refine tkD 6 (some 56) rfl ?_; simp only [pz]
    refine tkD 7 (some 57) rfl ?_; simp only [pz]
    refine wpAnyH_inv (fuel := 1) [1, 4, 5, 8, 9, 10, 11] [51, 54, 55, 58, 59, 60, 61] (fun u L W => (World.grownBy wE W (some g) ∧ Src W g) ∧ (L 1 → (u 51) = (.int .i64 ay)) ∧ (L 4 → FInt (u 54)) ∧ (L 5 → FInt (u 55)) ∧ (L 8 → FInt (u 58)) ∧ (L 9 → FInt (u 59)) ∧ (L 10 → FInt (u 60)) ∧ (L 11 → (u 61) = (.pointer (some ⟨w1.heap.size, 1, none⟩))) ∧ True) (by decide) (by kernel_rfl) (fun u L W hJ => ⟨HwE.trans hJ.1.1, hJ.1.2⟩) (fun u L hL => ⟨⟨gr_drew (World.grownBy.refl _ _), by assumption⟩, fun k => absurd k (hL 1 (by decide)), fun k => absurd k (hL 4 (by decide)), fun k => absurd k (hL 5 (by decide)), fun k => absurd k (hL 8 (by decide)), fun k => absurd k (hL 9 (by decide)), fun k => absurd k (hL 10 (by decide)), fun k => absurd k (hL 11 (by decide)), trivial⟩) ?_ ?_
    ·refine sc1 51 ?_ ?_
     rotate_left
     refine sc1 54 ?_ ?_
     rotate_left
     refine sc1 55 ?_ ?_
     rotate_left
     refine sc1 58 ?_ ?_
     rotate_left
     refine sc1 59 ?_ ?_
     rotate_left
     refine sc1 60 ?_ ?_
     rotate_left
     refine sc1 61 ?_ ?_
     rotate_left
     exact StepsH.nil
     ·intro u L W hn hd hJ
      obtain ⟨hk, f51, f54, f55, f58, f59, f60, f61, _⟩ := hJ
      have hnd := hk.2
      have hcS := gcell hk.1
      intro K hK
      simp only [puts, pz]
      go_simp
      all_goals (try go_wp2_with fail)
      all_goals
       apply Shut.go3 (W := W) (g := g) hK
       ·simp only [puts, pz]; rfl
       ·exact gbz
       ·exact sbz
       ·intro hg hs; exact ⟨Dr.step hk hg hs, fun _ => upd_same _ _ _, unz f54, unz f55, unz f58, unz f59, unz f60, unz f61, trivial⟩
     ·intro u L W hn hd hJ
      obtain ⟨hk, f51, f54, f55, f58, f59, f60, f61, _⟩ := hJ
      have hnd := hk.2
      intro K hK
      simp only [puts, pz]
      go_simp; (go_at_call 14; (with_reducible refine (spec_l01Next g _ _ hnd (by omega)).mono ?_); rintro e w9 ⟨⟨xx, rfl, hxx⟩, hg, hs⟩)
      all_goals (try go_wp2_with fail)
      all_goals
       apply Shut.go3 (W := W) (g := g) hK
       ·simp only [puts, pz]; rfl
       ·exact gbz
       ·exact sbz
       ·intro hg hs; exact ⟨Dr.step hk hg hs, unz f51, fun _ => by rw [upd_same]; exact ⟨_, rfl⟩, unz f55, unz f58, unz f59, unz f60, unz f61, trivial⟩
     ·intro u L W hn hd hJ
      obtain ⟨hk, f51, f54, f55, f58, f59, f60, f61, _⟩ := hJ
      have hnd := hk.2
      obtain e51 := f51 (hd 1 (by kernel_rfl))
      obtain ⟨x54, e54⟩ := f54 (hd 4 (by kernel_rfl))
      intro K hK
      simp only [puts, pz, e51, e54]
      go_simp
      all_goals (try go_wp2_with fail)
      all_goals
       apply Shut.go3 (W := W) (g := g) hK
       ·simp only [puts, pz, e51, e54]; rfl
       ·exact gbz
       ·exact sbz
       ·intro hg hs; exact ⟨Dr.step hk hg hs, unz f51, unz f54, fun _ => by rw [upd_same]; exact ⟨_, rfl⟩, unz f58, unz f59, unz f60, unz f61, trivial⟩
     ·intro u L W hn hd hJ
      obtain ⟨hk, f51, f54, f55, f58, f59, f60, f61, _⟩ := hJ
      have hnd := hk.2
      obtain ⟨x55, e55⟩ := f55 (hd 5 (by kernel_rfl))
      intro K hK
      simp only [puts, pz, e55]
      go_simp
      all_goals (try go_wp2_with fail)
      all_goals
       apply Shut.go3 (W := W) (g := g) hK
       ·simp only [puts, pz, e55]; rfl
       ·exact gbz
       ·exact sbz
       ·intro hg hs; exact ⟨Dr.step hk hg hs, unz f51, unz f54, unz f55, fun _ => by rw [upd_same]; exact ⟨_, rfl⟩, unz f59, unz f60, unz f61, trivial⟩
     ·intro u L W hn hd hJ
      obtain ⟨hk, f51, f54, f55, f58, f59, f60, f61, _⟩ := hJ
      have hnd := hk.2
      obtain ⟨x58, e58⟩ := f58 (hd 8 (by kernel_rfl))
      intro K hK
      simp only [puts, pz, e58]
      go_simp
      all_goals (try go_wp2_with fail)
      all_goals
       apply Shut.go3 (W := W) (g := g) hK
       ·simp only [puts, pz, e58]; rfl
       ·exact gbz
       ·exact sbz
       ·intro hg hs; exact ⟨Dr.step hk hg hs, unz f51, unz f54, unz f55, unz f58, fun _ => by rw [upd_same]; exact ⟨_, rfl⟩, unz f60, unz f61, trivial⟩
     ·intro u L W hn hd hJ
      obtain ⟨hk, f51, f54, f55, f58, f59, f60, f61, _⟩ := hJ
      have hnd := hk.2
      obtain ⟨x59, e59⟩ := f59 (hd 9 (by kernel_rfl))
      intro K hK
      simp only [puts, pz, e59]
      go_simp
      all_goals (try go_wp2_with fail)
      all_goals
       apply Shut.go3 (W := W) (g := g) hK
       ·simp only [puts, pz, e59]; rfl
       ·exact gbz
       ·exact sbz
       ·intro hg hs; exact ⟨Dr.step hk hg hs, unz f51, unz f54, unz f55, unz f58, unz f59, fun _ => by rw [upd_same]; exact ⟨_, rfl⟩, unz f61, trivial⟩
     ·intro u L W hn hd hJ
      obtain ⟨hk, f51, f54, f55, f58, f59, f60, f61, _⟩ := hJ
      have hnd := hk.2
      intro K hK
      simp only [puts, pz]
      go_simp
      all_goals (try go_wp2_with fail)
      all_goals
       apply Shut.go3 (W := W) (g := g) hK
       ·simp only [puts, pz]; rfl
       ·exact gbz
       ·exact sbz
       ·intro hg hs; exact ⟨Dr.step hk hg hs, unz f51, unz f54, unz f55, unz f58, unz f59, unz f60, fun _ => upd_same _ _ _, trivial⟩
    ·intro u L W hJ hL
     obtain ⟨hk, f51, f54, f55, f58, f59, f60, f61, _⟩ := hJ
     obtain e51 := f51 (hL 1 (by kernel_rfl))
     obtain ⟨x54, e54⟩ := f54 (hL 4 (by kernel_rfl))
     obtain ⟨x55, e55⟩ := f55 (hL 5 (by kernel_rfl))
     obtain ⟨x58, e58⟩ := f58 (hL 8 (by kernel_rfl))
     obtain ⟨x59, e59⟩ := f59 (hL 9 (by kernel_rfl))
     obtain ⟨x60, e60⟩ := f60 (hL 10 (by kernel_rfl))
     obtain e61 := f61 (hL 11 (by kernel_rfl))
     clear hHeld; have hcW := gcell hk.1; have hfW := gfroz hk.1; have hHeld := And.intro (HwE.trans hk.1) hk.2; have lW := hk.1.size
     clear f51
     clear f54
     clear f55
     clear f58
     clear f59
     clear f60
     clear f61
     simp only [puts, pz, setAll, Array.replicate, e51, e54, e55, e58, e59, e60, e61]
     refine rd1 12 none rfl (fun K hK => ?_)
     go_simp
     all_goals (try go_wp2_with fail)
     refine hK.out _ _ ?_ (fun hH2 => ?_)
     ·have hHg := hHeld.1; have hHs := hHeld.2; exact ⟨gwz, swz⟩
     clear hK K hHeld; (have hHeld := hH2); clear hH2; (try simp only [Act.put])
     refine wpAnyH_done (by kernel_rfl) ?_ _; (try simp only [pz])
     obtain ⟨hgE, hsE⟩ := hHeld
     have HO8 := own_far (b := w1.heap.size) (j := 1) (x := .int .i64 x60) (own_kept HO7.out hk.1 (by omega)) (by omega)
     obtain ⟨wF, hF⟩ : ∃ x, x = W.setCell ⟨w1.heap.size, 1, none⟩ (.int .i64 x60) := ⟨_, rfl⟩
     have z8 := hk.1.size
     have zX0 : w.heap.size < W.heap.size := by omega
     have zX1 : w1.heap.size < W.heap.size := by omega
     have r0 : wF.cell? ⟨w1.heap.size, 0, none⟩ = some (.int .i64 y48) := by rw [hF]; go_simp
     have r1 : wF.cell? ⟨w1.heap.size, 1, none⟩ = some (.int .i64 x60) := by rw [hF]; go_simp
     have r2 : wF.frozen? ⟨w1.heap.size, 0, none⟩ = false := by rw [hF]; go_simp
     have r3 : wF.frozen? ⟨w1.heap.size, 1, none⟩ = false := by rw [hF]; go_simp
     have r4 : wF.cell? ⟨w.heap.size, 0, none⟩ = some (.slice none 0 0) := by rw [hF]; go_simp
     have r5 : wF.frozen? ⟨w.heap.size, 0, none⟩ = false := by rw [hF]; go_simp
     have GF := hide (show w.grownBy wF (some g) by rw [hF]; exact hgE)
     have SF := hide (show Src wF g by rw [hF]; exact hsE)
     have HO9 := hide (show wF.ownsRow (w1.heap.size + 1) 68 3 v' (q + 1) (LA.map (Value.int .i64)) by rw [hF]; exact HO8)
     have zF : W.heap.size = wF.heap.size := by rw [hF]; simp [World.setCell]
     rw [← hF]
     clear hF HO8 HO7 hgE hsE hcW hfW hk e0 e1 e2 e3 e4 e5
     go_wp2
     go_roundw
     case rel => exact ⟨k, q + 1, T', y48, x60, LA, rfl, by go_num, by omega, hlA, by have := HT'.out; omega, by have := HT'.out; push_cast; omega, HMA, HO9, SF, r0, r1, r2, r3, r4, r5, GF, by omega⟩
     case measure => simp [intOf]
  | zero =>
   obtain ⟨so', cp, rfl, hcap, ho⟩ := ownI_of_row hl HM.out HO.out
   have HOl := hide ho
   have HGr := HG.out
   have HSr := HS.out
   clear ho HM HO
   go_wp2
   simp [bodyPost, results, Tryz.results55, go_sem, *]
   exact ⟨⟨_, _, _, _, rfl, by omega, by omega, hcap, (OwnI.far HOl.out (by omega)).mono (by omega) (by omega)⟩, gwz, swz⟩
set_option maxRecDepth 100000 in
set_option maxHeartbeats 4000000 in
theorem spec_l03Draw (g : Nat) (w : World) (h : Src w g) : Calls Tryz.prog 30 #[.pointer (some ⟨g, 0, none⟩)] w (TrC 2 8 20000 w g) := by
 have ng := Src.lt h
 have nz0 : ¬ w.heap.size = g := by omega
 have nz1 : ¬ g = w.heap.size := by omega
 go_enter Tryz.func30, Tryz.ntmps30
 go_wp2_with fail; (with_reducible refine (spec_l01Next g _ _ swz (by decide)).mono ?_); rintro e w1 ⟨⟨x1, rfl, hx1⟩, hg1, hs1⟩; have hc1 := gcell hg1; have hf1 := gfroz hg1; have lg1 := Src.lt hs1; have nga1 : ¬ w1.heap.size = g := (by omega); have ngb1 : ¬ g = w1.heap.size := (by omega); have hzs1 := hg1.size; (try simp at hzs1); have zx1_0 : w.heap.size < w1.heap.size := (by first | omega | (simp at hzs1; omega)); have zy1_0 : w.heap.size < w1.heap.size + 1 := (by omega); have zw1_0 : ¬ w1.heap.size = w.heap.size := (by omega); have zv1_0 : ¬ w.heap.size = w1.heap.size := (by omega); have zu1_0 : w.heap.size < w1.heap.size + 1 + 1 := (by omega); have zt1_0 : ¬ w1.heap.size + 1 = w.heap.size := (by omega); have zr1_0 : ¬ w.heap.size = w1.heap.size + 1 := (by omega)
 obtain ⟨p1, p2⟩ := hx1 (by decide)
 clear hx1
 go_wp2_with fail; (with_reducible refine (spec_l03DrawFrom g x1 _ swz ⟨p1, by omega⟩).mono ?_); rintro e w2 ⟨⟨so, n, cap, L, rfl, q1, q2, q3, ho⟩, hg2, hs2⟩; have hc2 := gcell hg2; have hf2 := gfroz hg2; have lg2 := Src.lt hs2; have nga2 : ¬ w2.heap.size = g := (by omega); have ngb2 : ¬ g = w2.heap.size := (by omega); have hzs2 := hg2.size; (try simp at hzs2); have zx2_0 : w.heap.size < w2.heap.size := (by first | omega | (simp at hzs2; omega)); have zy2_0 : w.heap.size < w2.heap.size + 1 := (by omega); have zw2_0 : ¬ w2.heap.size = w.heap.size := (by omega); have zv2_0 : ¬ w.heap.size = w2.heap.size := (by omega); have zu2_0 : w.heap.size < w2.heap.size + 1 + 1 := (by omega); have zt2_0 : ¬ w2.heap.size + 1 = w.heap.size := (by omega); have zr2_0 : ¬ w.heap.size = w2.heap.size + 1 := (by omega)
 have Ho := hide ho
 clear ho
 go_wp2
 simp [bodyPost, results, Tryz.results30, go_sem, *]
 exact ⟨⟨_, _, _, _, rfl, q1, q2, q3, (OwnI.far Ho.out (by omega)).mono (by omega) (by omega)⟩, gwz, swz⟩
end Go.Proofs.YthlnpcneicmblaaGreatDoor
