/- Walks: the wind and the boats that FnKeepClear begins with. -/
import Derived.Test.YtnmnibpcklcmgaaDr
import Derived.Test.YtnmnibpcklcmgaaDk
import Derived.Test.YtnmnibpcklcmgaaDm
import Derived.Test.YtnmnibpcklcmgaaKc
namespace Go.Proofs.Ytnmnibpcklcmgaa
open Go.RowKit

abbrev Bt6 : Type := Int × Int × Int × Int × Int × Bool
def bC (p : Bt6) : List Value := [.int .i64 p.1, .int .i64 p.2.1, .int .i64 p.2.2.1, .int .i64 p.2.2.2.1, .int .i64 p.2.2.2.2.1, .bool p.2.2.2.2.2]
def bcells (L : List Bt6) : List Value := L.flatMap bC
def bA (L : List Bt6) (i : Nat) : Bt6 := (L[i]?).getD (0, 0, 0, 0, 0, false)
def vB (L : List Bt6) : Nat → Nat → Value := v6 (fun i => (bA L i).1) (fun i => (bA L i).2.1) (fun i => (bA L i).2.2.1) (fun i => (bA L i).2.2.2.1) (fun i => (bA L i).2.2.2.2.1) (fun i => (bA L i).2.2.2.2.2)
theorem bcells_two (L : List Bt6) (p q : Bt6) : bcells (L ++ [p, q]) = bcells L ++ (bC p ++ bC q) := by simp [bcells]
theorem bcells_at (L : List Bt6) (i j : Nat) (hi : i < L.length) (hj : j < 6) : (bcells L)[i * 6 + j]? = some (vB L i j) := by
  induction L generalizing i with
  | nil => exact absurd hi (Nat.not_lt_zero _)
  | cons p L ih =>
    cases i with
    | zero => rcases (by omega : j = 0 ∨ j = 1 ∨ j = 2 ∨ j = 3 ∨ j = 4 ∨ j = 5) with rfl | rfl | rfl | rfl | rfl | rfl <;> simp [bcells, vB, v6, bA, bC]
    | succ i =>
      have e : bcells (p :: L) = bC p ++ bcells L := rfl
      have h1 := ih i (by simpa using hi)
      have h2 : vB (p :: L) (i + 1) j = vB L i j := by simp [vB, v6, bA]
      have h3 : (bC p).length = 6 := rfl
      rw [e, List.getElem?_append_right (by rw [h3]; omega), h2, ← h1]
      congr 1
      rw [h3]; omega
theorem own6 {w : World} {B : Nat} {e : TypeId} {v : Value} {L : List Bt6} (h : w.ownsRow B e 6 v L.length (bcells L)) : ∃ so cap, v = .slice so L.length cap ∧ RowAt w so L.length 6 (vB L) ∧ ∀ b o, so = some ⟨b, o, none⟩ → B ≤ b ∧ b < w.heap.size := by
  have hc := fun g (hg : v.ownBlock = some g) => World.ownsRow.cells h hg
  have hl := fun g (hg : v.ownBlock = some g) => World.ownsRow.lt h g hg
  obtain ⟨_, ⟨rfl, h0⟩ | ⟨g, cap, cur, rfl, hB, hg, hn, _, hsz, htk⟩⟩ := h
  · exact ⟨none, 0, by rw [h0], fun i hi => absurd hi (by omega), fun b o k => by cases k⟩
  · refine ⟨some ⟨g, 0, none⟩, cap, rfl, own_row fun i hi j hj => ?_, fun b o k => ?_⟩
    · have := hc g rfl (i * 6 + j) _ (bcells_at L i j hi hj)
      rwa [Addr.add_lit, Nat.zero_add] at this
    · injection k with k; injection k with k1 k2; subst k1
      exact hl g rfl
theorem newL {W : World} {e : TypeId} {l : List Value} : ∀ (j : Nat) (u : Value), l[j]? = some u → (W.alloc (.cells l.toArray e)).cell? ((⟨W.heap.size, 0, none⟩ : Addr).add j) = some u := fun j u hj => by
  rw [Addr.add_lit, Nat.zero_add, World.cell?_alloc_new]
  simpa using hj
theorem one12 (p q : Bt6) : ∀ u ∈ bC p ++ bC q, u.oneCell' = true := fun u hu => by
  simp only [bC, List.cons_append, List.nil_append, List.mem_cons, List.not_mem_nil, or_false] at hu
  rcases hu with rfl | rfl | rfl | rfl | rfl | rfl | rfl | rfl | rfl | rfl | rfl | rfl <;> rfl
theorem made_at6 (m j : Nat) (hj : j < m) : (madeCells #[Value.int .i64 0, .int .i64 0, .int .i64 0, .int .i64 0, .int .i64 0, .bool false] m)[j]? = some (if j % 6 = 5 then .bool false else .int .i64 0) := by
  rcases (by omega : j % 6 = 0 ∨ j % 6 = 1 ∨ j % 6 = 2 ∨ j % 6 = 3 ∨ j % 6 = 4 ∨ j % 6 = 5) with k | k | k | k | k | k <;> simp [madeCells, hj, k]
theorem made_row6 {W : World} {e : TypeId} {m s b : Nat} (hs : s = 6) (hb : b = W.heap.size) : RowAt (W.alloc (.cells (madeCells #[.int .i64 0, .int .i64 0, .int .i64 0, .int .i64 0, .int .i64 0, .bool false] (m * s)) e)) (some ⟨b, 0, none⟩) m 6 (v6 (fun _ => 0) (fun _ => 0) (fun _ => 0) (fun _ => 0) (fun _ => 0) fun _ => false) := by
  subst hs hb
  refine own_row fun i hi j hj => ?_
  rw [World.cell?_alloc_new]
  refine (made_at6 (m * 6) (i * 6 + j) (by omega)).trans (congrArg some ?_)
  rw [show (i * 6 + j) % 6 = j by omega]
  simp [v6]
theorem grown_rowK {w W : World} {g n c : Nat} {V : Nat → Nat → Value} {so : Option Addr} (hg : w.grownBy W (some g)) (h : ∀ b o, so = some ⟨b, o, none⟩ → b ≠ g) (r : RowAt w so n c V) : RowAt W so n c V := fun i hi => by
  obtain ⟨b, o, e, k⟩ := r i hi
  exact ⟨b, o, e, fun j hj => hg.cell (k j hj) (by simpa using h b o e)⟩
/-- A wind and boats. -/
def BtD (e : Ending) (w' : World) : Prop := ∃ (wx wy : Int) (so : Option Addr) (n cap : Nat) (X Y H K L : Nat → Int) (U : Nat → Bool), e = .returned (.tuple #[.agg #[.int .i64 wx, .int .i64 wy], .slice so n cap]) ∧ n ≤ 17 ∧ RowAt w' so n 6 (v6 X Y H K L U)
theorem infoBtD : (Try.prog.info? 54).map (fun i => (i.zero, i.size, i.bytes)) = some (some (.agg #[.int .i64 0, .int .i64 0, .int .i64 0, .int .i64 0, .int .i64 0, .bool false]), 6, 48) := by kernel_rfl
set_option maxRecDepth 100000 in
set_option maxHeartbeats 8000000 in
theorem spec_DrawKeepClearTable (so : Option Addr) (n cap : Nat) (B : Nat → Int) (w : World) (h : RowAt w so n 1 (vb B)) (hB : ∀ i, 0 ≤ B i ∧ B i ≤ 255) (hn : n ≤ 1048576) :
    Calls Try.prog 21 #[.slice so n cap] w fun e w' => BtD e w' ∧ Below w.heap.size w w' := by
  obtain ⟨i0, hi, hz0, hz1, hz2⟩ := info_parts infoBtD
  have Hi := hide hi
  have Hz := hide (And.intro hz0 (And.intro hz1 hz2))
  have Hmk := hide (fun (m : Nat) (hm : m ≤ 100) W => run_make_rowN (P := Try.prog) 60 54 i0 _ Try.underlying60 hi hz0 m (by rw [hz2]; omega) (by omega) W)
  clear hi hz0 hz1 hz2
  go_enter Try.func21, Try.ntmps21
  go_wp2_with fail; (with_reducible refine (spec_l01From so n cap B _ (RowAt.later (by repeat (first | with_reducible exact Below.refl _ _ | with_reducible assumption | with_reducible refine Below.drew ?_ | with_reducible refine below_drewN ?_ _ | with_reducible refine Below.setCell ?_ (by first | exact Nat.le_refl _ | (simp; done) | (simp; omega) | (dsimp only; omega)) _ | with_reducible refine Below.alloc ?_ (by first | exact Nat.le_refl _ | (simp; done) | (simp; omega) | (simp at *; omega)) _ | with_reducible refine bstep ?_ (by assumption))) h) hB hn).mono ?_); rintro e w1 ⟨rfl, hs1, hb1⟩
  obtain ⟨hc1, hf1⟩ := bcell hb1
  simp only [size_al] at hs1
  have hz1 := hb1.size
  simp only [size_al] at hz1
  have z0 : w.heap.size < w1.heap.size := by omega
  have ra0_0 : w1.cell? ⟨w.heap.size, 0, none⟩ = some (.int .i64 0) := by rw [hc1 _ _ (by first | (simp; done) | (simp; omega))]; go_simp
  have rb0_0 : w1.frozen? ⟨w.heap.size, 0, none⟩ = false := by rw [hf1 _ _ (by first | (simp; done) | (simp; omega))]; go_simp
  have ra0_1 : w1.cell? ⟨w.heap.size, 1, none⟩ = some (.int .i64 0) := by rw [hc1 _ _ (by first | (simp; done) | (simp; omega))]; go_simp
  have rb0_1 : w1.frozen? ⟨w.heap.size, 1, none⟩ = false := by rw [hf1 _ _ (by first | (simp; done) | (simp; omega))]; go_simp
  have HB1 := hide (show Below w.heap.size w w1 from (by repeat (first | with_reducible exact Below.refl _ _ | with_reducible assumption | with_reducible refine Below.drew ?_ | with_reducible refine below_drewN ?_ _ | with_reducible refine Below.setCell ?_ (by first | exact Nat.le_refl _ | (simp; done) | (simp; omega) | (dsimp only; omega)) _ | with_reducible refine Below.alloc ?_ (by first | exact Nat.le_refl _ | (simp; done) | (simp; omega) | (simp at *; omega)) _ | with_reducible refine bstep ?_ (by assumption))))
  clear hc1 hf1
  obtain ⟨g, hg⟩ : ∃ g, g = w.heap.size + 1 := ⟨_, rfl⟩
  simp only [size_al]
  rw [← hg] at hs1 ⊢
  have gl : w.heap.size ≤ g := by omega
  have g0 : ¬ w.heap.size = g := by omega
  have lg0 := Src.lt hs1
  clear hg
  go_wp2_with fail; (with_reducible refine (spec_l08DrawAny g _ (by repeat (first | with_reducible assumption | with_reducible refine Src.alloc ?_ _ | with_reducible refine Src.drewN ?_ _ | with_reducible refine Src.drew ?_ | with_reducible refine Src.set (by first | (dsimp only; omega) | (simp; omega)) ?_))).mono ?_); rintro e w2 ⟨⟨wx, wy, rfl⟩, hg2, hs2⟩; have hc2 := gcell hg2; have hf2 := gfroz hg2; have lg2 := Src.lt hs2; have nga2 : ¬ w2.heap.size = g := (by omega); have ngb2 : ¬ g = w2.heap.size := (by omega); have hzs2 := hg2.size; (try simp at hzs2); have zx2_0 : w.heap.size < w2.heap.size := (by first | omega | (simp at hzs2; omega)); have zy2_0 : w.heap.size < w2.heap.size + 1 := (by omega); have zw2_0 : ¬ w2.heap.size = w.heap.size := (by omega); have zv2_0 : ¬ w.heap.size = w2.heap.size := (by omega); have zu2_0 : w.heap.size < w2.heap.size + 1 + 1 := (by omega); have zt2_0 : ¬ w2.heap.size + 1 = w.heap.size := (by omega); have zr2_0 : ¬ w.heap.size = w2.heap.size + 1 := (by omega)
  have HB2 := hide (below_gr HB1.out hg2 (by omega) gl)
  have ngt : ¬ w2.heap.size + 1 = g := by omega
  go_wp2_with fail; (with_reducible refine (spec_l01Next g _ _ (by repeat (first | with_reducible assumption | with_reducible refine Src.alloc ?_ _ | with_reducible refine Src.drewN ?_ _ | with_reducible refine Src.drew ?_ | with_reducible refine Src.set (by first | (dsimp only; omega) | (simp; omega)) ?_)) (by decide)).mono ?_); rintro e w3 ⟨⟨x3, rfl, hx3⟩, hg3, hs3⟩; have hc3 := gcell hg3; have hf3 := gfroz hg3; have lg3 := Src.lt hs3; have nga3 : ¬ w3.heap.size = g := (by omega); have ngb3 : ¬ g = w3.heap.size := (by omega); have hzs3 := hg3.size; (try simp at hzs3); have zx3_0 : w.heap.size < w3.heap.size := (by first | omega | (simp at hzs3; omega)); have zy3_0 : w.heap.size < w3.heap.size + 1 := (by omega); have zw3_0 : ¬ w3.heap.size = w.heap.size := (by omega); have zv3_0 : ¬ w.heap.size = w3.heap.size := (by omega); have zu3_0 : w.heap.size < w3.heap.size + 1 + 1 := (by omega); have zt3_0 : ¬ w3.heap.size + 1 = w.heap.size := (by omega); have zr3_0 : ¬ w.heap.size = w3.heap.size + 1 := (by omega); have zx3_1 : w2.heap.size < w3.heap.size := (by first | omega | (simp at hzs3; omega)); have zy3_1 : w2.heap.size < w3.heap.size + 1 := (by omega); have zw3_1 : ¬ w3.heap.size = w2.heap.size := (by omega); have zv3_1 : ¬ w2.heap.size = w3.heap.size := (by omega); have zu3_1 : w2.heap.size < w3.heap.size + 1 + 1 := (by omega); have zt3_1 : ¬ w3.heap.size + 1 = w2.heap.size := (by omega); have zr3_1 : ¬ w2.heap.size = w3.heap.size + 1 := (by omega); have zx3_2 : w2.heap.size + 1 < w3.heap.size := (by first | omega | (simp at hzs3; omega)); have zy3_2 : w2.heap.size + 1 < w3.heap.size + 1 := (by omega); have zw3_2 : ¬ w3.heap.size = w2.heap.size + 1 := (by omega); have zv3_2 : ¬ w2.heap.size + 1 = w3.heap.size := (by omega); have zu3_2 : w2.heap.size + 1 < w3.heap.size + 1 + 1 := (by omega); have zt3_2 : ¬ w3.heap.size + 1 = w2.heap.size + 1 := (by omega); have zr3_2 : ¬ w2.heap.size + 1 = w3.heap.size + 1 := (by omega)
  obtain ⟨p1, p2⟩ := hx3 (by decide)
  clear hx3
  obtain ⟨k3, rfl⟩ := Int.eq_ofNat_of_zero_le p1
  have HB3 := hide (below_gr (show Below w.heap.size w _ from Below.alloc (Below.alloc HB2.out (by omega) _) (by simp; omega) _) hg3 (by simp; omega) gl)
  have hm := own_kept (World.ownsRow_made (base := w2.heap.size + 1) (e := 54) (size := 6) (w2.alloc (Obj.cells #[Value.int .i64 wx, Value.int .i64 wy] 25)) #[] 0 (by simp) (by decide) rfl) hg3 (by omega)
  simp only [size_al] at hm
  have Hown := hide hm
  clear hm
  have c0 : w3.cell? ⟨w2.heap.size, 0, none⟩ = some (.int .i64 wx) := by go_simp
  have c1 : w3.cell? ⟨w2.heap.size, 1, none⟩ = some (.int .i64 wy) := by go_simp
  have d0 : w3.cell? ⟨w.heap.size, 0, none⟩ = some (.int .i64 0) := by go_simp
  have d1 : w3.cell? ⟨w.heap.size, 1, none⟩ = some (.int .i64 0) := by go_simp
  have e0 : w3.frozen? ⟨w.heap.size, 0, none⟩ = false := by go_simp
  have e1 : w3.frozen? ⟨w.heap.size, 1, none⟩ = false := by go_simp
  have HS3 := hide hs3
  clear hc3 hf3 hc2 hf2
  go_wp2
  go_loopw [6, 7] (fun v i wr => ∃ (k : Nat) (L : List Bt6), i = .int .i64 (k : Int) ∧ 2 * k + L.length ≤ 8 ∧ Hid (wr.ownsRow (w2.heap.size + 1) 54 6 v L.length (bcells L)) ∧ Hid (Src wr g) ∧ wr.cell? ⟨w2.heap.size, 0, none⟩ = some (.int .i64 wx) ∧ wr.cell? ⟨w2.heap.size, 1, none⟩ = some (.int .i64 wy) ∧ wr.cell? ⟨w.heap.size, 0, none⟩ = some (.int .i64 0) ∧ wr.cell? ⟨w.heap.size, 1, none⟩ = some (.int .i64 0) ∧ wr.frozen? ⟨w.heap.size, 0, none⟩ = false ∧ wr.frozen? ⟨w.heap.size, 1, none⟩ = false ∧ Below w.heap.size w wr ∧ w3.heap.size ≤ wr.heap.size) (fun _ i _ => (intOf i).toNat)
  case atStart => exact ⟨k3, [], rfl, by simp; omega, Hown, HS3, c0, c1, d0, d1, e0, e1, HB3.out, Nat.le_refl _⟩
  case round =>
    obtain ⟨k, L, rfl, hkL, HO, HS, c0, c1, d0, d1, e0, e1, hbl, hsz⟩ := hrel
    have lgr := Src.lt HS.out
    have zr0 : w.heap.size < wr.heap.size := by omega
    have zr1 : w2.heap.size < wr.heap.size := by omega
    have zr2 : w2.heap.size + 1 < wr.heap.size := by omega
    cases k with
    | succ j =>
      go_wp2_with fail; (with_reducible refine (spec_l10Draw g _ HS.out).mono ?_); rintro e w5 ⟨⟨a1, b1, x1, y1, l1, t1, aa, bb, cc, dd, ll, tt, rfl⟩, hg5, hs5⟩; have hc5 := gcell hg5; have hf5 := gfroz hg5; have lg5 := Src.lt hs5; have nga5 : ¬ w5.heap.size = g := (by omega); have ngb5 : ¬ g = w5.heap.size := (by omega); have hzs5 := hg5.size; (try simp at hzs5); have zx5_0 : w.heap.size < w5.heap.size := (by first | omega | (simp at hzs5; omega)); have zy5_0 : w.heap.size < w5.heap.size + 1 := (by omega); have zw5_0 : ¬ w5.heap.size = w.heap.size := (by omega); have zv5_0 : ¬ w.heap.size = w5.heap.size := (by omega); have zu5_0 : w.heap.size < w5.heap.size + 1 + 1 := (by omega); have zt5_0 : ¬ w5.heap.size + 1 = w.heap.size := (by omega); have zr5_0 : ¬ w.heap.size = w5.heap.size + 1 := (by omega); have zx5_1 : w2.heap.size < w5.heap.size := (by first | omega | (simp at hzs5; omega)); have zy5_1 : w2.heap.size < w5.heap.size + 1 := (by omega); have zw5_1 : ¬ w5.heap.size = w2.heap.size := (by omega); have zv5_1 : ¬ w2.heap.size = w5.heap.size := (by omega); have zu5_1 : w2.heap.size < w5.heap.size + 1 + 1 := (by omega); have zt5_1 : ¬ w5.heap.size + 1 = w2.heap.size := (by omega); have zr5_1 : ¬ w2.heap.size = w5.heap.size + 1 := (by omega)
      have HO5 := hide (own_kept HO.out hg5 (by omega))
      have HB5 := hide (below_gr hbl hg5 (by omega) gl)
      have hS5 := hs5
      go_upto_region 8 with fail
      obtain ⟨wA, hA9⟩ : ∃ W, W = (w5.alloc (.cells #[.int .i64 a1, .int .i64 b1, .int .i64 x1, .int .i64 y1, .int .i64 l1, .bool t1] 54)).alloc (.cells #[.int .i64 aa, .int .i64 bb, .int .i64 cc, .int .i64 dd, .int .i64 ll, .bool tt] 54) := ⟨_, rfl⟩
      rw [← hA9]
      have szA : wA.heap.size = w5.heap.size + 1 + 1 := by rw [hA9]; simp
      have sA : Src wA g := by rw [hA9]; exact (by repeat (first | with_reducible assumption | with_reducible refine Src.alloc ?_ _ | with_reducible refine Src.drewN ?_ _ | with_reducible refine Src.drew ?_ | with_reducible refine Src.set (by first | (dsimp only; omega) | (simp; omega)) ?_))
      have HBA := hide (show Below w.heap.size w wA by rw [hA9]; exact Below.alloc (Below.alloc HB5.out (by omega) _) (by simp; omega) _)
      have HOA := hide (show wA.ownsRow (w2.heap.size + 1) 54 6 _ L.length (bcells L) by rw [hA9]; exact (HO5.out.alloc _).alloc _)
      have u0 : wA.cell? ⟨w5.heap.size, 0, none⟩ = some (.int .i64 a1) := by rw [hA9]; go_simp
      have u1 : wA.cell? ⟨w5.heap.size, 1, none⟩ = some (.int .i64 b1) := by rw [hA9]; go_simp
      have u2 : wA.cell? ⟨w5.heap.size, 2, none⟩ = some (.int .i64 x1) := by rw [hA9]; go_simp
      have u3 : wA.cell? ⟨w5.heap.size, 3, none⟩ = some (.int .i64 y1) := by rw [hA9]; go_simp
      have u4 : wA.cell? ⟨w5.heap.size, 4, none⟩ = some (.int .i64 l1) := by rw [hA9]; go_simp
      have u5 : wA.cell? ⟨w5.heap.size, 5, none⟩ = some (.bool t1) := by rw [hA9]; go_simp
      have v0 : wA.cell? ⟨w5.heap.size + 1, 0, none⟩ = some (.int .i64 aa) := by rw [hA9]; go_simp
      have v1 : wA.cell? ⟨w5.heap.size + 1, 1, none⟩ = some (.int .i64 bb) := by rw [hA9]; go_simp
      have v2 : wA.cell? ⟨w5.heap.size + 1, 2, none⟩ = some (.int .i64 cc) := by rw [hA9]; go_simp
      have v3 : wA.cell? ⟨w5.heap.size + 1, 3, none⟩ = some (.int .i64 dd) := by rw [hA9]; go_simp
      have v4 : wA.cell? ⟨w5.heap.size + 1, 4, none⟩ = some (.int .i64 ll) := by rw [hA9]; go_simp
      have v5 : wA.cell? ⟨w5.heap.size + 1, 5, none⟩ = some (.bool tt) := by rw [hA9]; go_simp
      have m0 := hide (show wA.cell? ⟨w2.heap.size, 0, none⟩ = some (.int .i64 wx) by rw [hA9]; go_simp)
      have m1 := hide (show wA.cell? ⟨w2.heap.size, 1, none⟩ = some (.int .i64 wy) by rw [hA9]; go_simp)
      have m2 := hide (show wA.cell? ⟨w.heap.size, 0, none⟩ = some (.int .i64 0) by rw [hA9]; go_simp)
      have m3 := hide (show wA.cell? ⟨w.heap.size, 1, none⟩ = some (.int .i64 0) by rw [hA9]; go_simp)
      have m4 := hide (show wA.frozen? ⟨w.heap.size, 0, none⟩ = false by rw [hA9]; go_simp)
      have m5 := hide (show wA.frozen? ⟨w.heap.size, 1, none⟩ = false by rw [hA9]; go_simp)
      have zA0 : w.heap.size < wA.heap.size := by omega
      have zA1 : w2.heap.size < wA.heap.size := by omega
      have zA2 : w5.heap.size < wA.heap.size := by omega
      have zA3 : w5.heap.size + 1 < wA.heap.size := by omega
      have zAg : g + 1 ≤ wA.heap.size := by omega
      clear hA9 hc5 hf5 hg5 hs5 hS5 c0 c1 d0 d1 e0 e1
      go_cut [38] (fun s W => ∃ bo : Bool, s = .bool bo ∧ wA.grownBy W (some g) ∧ Src W g)
      case first =>
        rcases b2 (isHu a1 b1 x1 y1 l1) with i1 | i1
        · go_wp2_with fail; (with_reducible refine (spec_IsHull _ _ _ _ _ _).mono ?_); rintro e wI ⟨rfl, hbI⟩
          have hgI := gr_belowB (World.grownBy.refl wA (some g)) hbI
          have hsI := Src.keepB (hbI.mono zAg) sA
          go_wp2_with fail; (with_reducible refine (spec_l01Next g _ _ hsI (by decide)).mono ?_); rintro e wN ⟨⟨x8, rfl, _⟩, hgN, hsN⟩
          go_wp2_with fail
          go_meet
          exact ⟨_, rfl, hgI.trans hgN, hsN⟩
        · go_wp2_with fail; (with_reducible refine (spec_IsHull _ _ _ _ _ _).mono ?_); rintro e wI ⟨rfl, hbI⟩
          have hgI := gr_belowB (World.grownBy.refl wA (some g)) hbI
          have hsI := Src.keepB (hbI.mono zAg) sA
          have zI := hbI.size
          obtain ⟨hcI, hfI⟩ := bcell hbI
          rcases b2 (isHu aa bb cc dd ll) with i2 | i2
          · go_wp2_with fail; (with_reducible refine (spec_IsHull _ _ _ _ _ _).mono ?_); rintro e wJ ⟨rfl, hbJ⟩
            have hgJ := hgI.trans (gr_belowB (World.grownBy.refl wI (some g)) hbJ)
            have hsJ := Src.keepB (hbJ.mono (by omega)) hsI
            go_wp2_with fail; (with_reducible refine (spec_l01Next g _ _ hsJ (by decide)).mono ?_); rintro e wN ⟨⟨x8, rfl, _⟩, hgN, hsN⟩
            go_wp2_with fail
            go_meet
            exact ⟨_, rfl, hgJ.trans hgN, hsN⟩
          · go_wp2_with fail; (with_reducible refine (spec_IsHull _ _ _ _ _ _).mono ?_); rintro e wJ ⟨rfl, hbJ⟩
            have hgJ := hgI.trans (gr_belowB (World.grownBy.refl wI (some g)) hbJ)
            have hsJ := Src.keepB (hbJ.mono (by omega)) hsI
            go_wp2_with fail
            go_meet
            exact ⟨_, rfl, hgJ, hsJ⟩
      case rest =>
        obtain ⟨bo, rfl, hg8, hs8⟩ := hcut
        have HOc := hide (own_kept HOA.out hg8 (by omega))
        have HBc := hide (below_gr HBA.out hg8 (by omega) gl)
        have HSc := hide hs8
        have zc := hg8.size
        have u0 := cell_grown hg8 (by omega) u0
        have u1 := cell_grown hg8 (by omega) u1
        have u2 := cell_grown hg8 (by omega) u2
        have u3 := cell_grown hg8 (by omega) u3
        have u4 := cell_grown hg8 (by omega) u4
        have u5 := cell_grown hg8 (by omega) u5
        have v0 := cell_grown hg8 (by omega) v0
        have v1 := cell_grown hg8 (by omega) v1
        have v2 := cell_grown hg8 (by omega) v2
        have v3 := cell_grown hg8 (by omega) v3
        have v4 := cell_grown hg8 (by omega) v4
        have v5 := cell_grown hg8 (by omega) v5
        have m0 := hide (cell_grown hg8 (by omega) m0.out)
        have m1 := hide (cell_grown hg8 (by omega) m1.out)
        have m2 := hide (cell_grown hg8 (by omega) m2.out)
        have m3 := hide (cell_grown hg8 (by omega) m3.out)
        have m4 := hide ((gfroz hg8 _ _ (by omega) (by omega)).trans m4.out)
        have m5 := hide ((gfroz hg8 _ _ (by omega) (by omega)).trans m5.out)
        clear hg8 hs8 sA
        cases bo
        · go_wp2
          go_roundw
          case rel => exact ⟨j, L, by go_num, by omega, HOc, HSc, m0.out, m1.out, m2.out, m3.out, m4.out, m5.out, HBc.out, by omega⟩
          case measure => simp [intOf]
        · go_wp2_with (at_builtin; refine wpList_append_own _ rfl _ _ 60 rfl (w2.heap.size + 1) 54 i0 _ 6 48 Try.underlying60 Hi.out Hz.out.1 Hz.out.2.1 Hz.out.2.2 rfl (by decide) _ _ _ rfl (HOc.out.alloc _) ⟨wc.heap.size, 0, none⟩ 2 2 (bC (a1, b1, x1, y1, l1, t1) ++ bC (aa, bb, cc, dd, ll, tt)) rfl rfl newL (one12 _ _) (by unfold maxLen; omega) (by omega) (by simp; omega) ?_)
          intro v' wB hown' hgrow _
          have hb := below_grown HOc.out (by omega) hgrow
          have hsA := hb.size
          have hO := hide (show wB.ownsRow (w2.heap.size + 1) 54 6 v' (L ++ [(a1, b1, x1, y1, l1, t1), (aa, bb, cc, dd, ll, tt)]).length (bcells (L ++ [(a1, b1, x1, y1, l1, t1), (aa, bb, cc, dd, ll, tt)])) by rw [bcells_two, List.length_append]; exact hown')
          have hS := hide (Src.keepB (hb.mono (by omega)) HSc.out)
          have hBA := hide (HBc.out.trans (hb.mono (by omega)))
          clear hgrow hown'
          go_wp2
          go_roundw
          case rel => exact ⟨j, _, by go_num, by simp; omega, hO, hS, cell_below hb (by omega) m0.out, cell_below hb (by omega) m1.out, cell_below hb (by omega) m2.out, cell_below hb (by omega) m3.out, ((bcell hb).2 _ _ (by omega)).trans m4.out, ((bcell hb).2 _ _ (by omega)).trans m5.out, hBA.out, by omega⟩
          case measure => simp [intOf]
    | zero =>
      obtain ⟨so', cp, rfl, hrow, hfar⟩ := own6 HO.out
      have Hrow := hide hrow
      have Hfar := hide hfar
      clear hrow hfar
      go_wp2_with fail; (with_reducible refine (spec_l01Next g _ _ HS.out (by decide)).mono ?_); rintro e w6 ⟨⟨x6, rfl, hx6⟩, hg6, hs6⟩; have hc6 := gcell hg6; have hf6 := gfroz hg6; have lg6 := Src.lt hs6; have nga6 : ¬ w6.heap.size = g := (by omega); have ngb6 : ¬ g = w6.heap.size := (by omega); have hzs6 := hg6.size; (try simp at hzs6); have zx6_0 : w.heap.size < w6.heap.size := (by first | omega | (simp at hzs6; omega)); have zy6_0 : w.heap.size < w6.heap.size + 1 := (by omega); have zw6_0 : ¬ w6.heap.size = w.heap.size := (by omega); have zv6_0 : ¬ w.heap.size = w6.heap.size := (by omega); have zu6_0 : w.heap.size < w6.heap.size + 1 + 1 := (by omega); have zt6_0 : ¬ w6.heap.size + 1 = w.heap.size := (by omega); have zr6_0 : ¬ w.heap.size = w6.heap.size + 1 := (by omega); have zx6_1 : w2.heap.size < w6.heap.size := (by first | omega | (simp at hzs6; omega)); have zy6_1 : w2.heap.size < w6.heap.size + 1 := (by omega); have zw6_1 : ¬ w6.heap.size = w2.heap.size := (by omega); have zv6_1 : ¬ w2.heap.size = w6.heap.size := (by omega); have zu6_1 : w2.heap.size < w6.heap.size + 1 + 1 := (by omega); have zt6_1 : ¬ w6.heap.size + 1 = w2.heap.size := (by omega); have zr6_1 : ¬ w2.heap.size = w6.heap.size + 1 := (by omega)
      clear hx6
      have HB6 := hide (below_gr hbl hg6 (by omega) gl)
      by_cases k0 : x6 = 0
      · subst k0
        go_wp2_with fail; (with_reducible refine (spec_l01NextN g 2 2 _ (by repeat (first | with_reducible assumption | with_reducible refine Src.alloc ?_ _ | with_reducible refine Src.drewN ?_ _ | with_reducible refine Src.drew ?_ | with_reducible refine Src.set (by first | (dsimp only; omega) | (simp; omega)) ?_)) (by decide) (by decide) (by decide)).mono ?_); rintro e w7 ⟨⟨x7, rfl, hx7⟩, hg7, hs7⟩; have hc7 := gcell hg7; have hf7 := gfroz hg7; have lg7 := Src.lt hs7; have nga7 : ¬ w7.heap.size = g := (by omega); have ngb7 : ¬ g = w7.heap.size := (by omega); have hzs7 := hg7.size; (try simp at hzs7); have zx7_0 : w.heap.size < w7.heap.size := (by first | omega | (simp at hzs7; omega)); have zy7_0 : w.heap.size < w7.heap.size + 1 := (by omega); have zw7_0 : ¬ w7.heap.size = w.heap.size := (by omega); have zv7_0 : ¬ w.heap.size = w7.heap.size := (by omega); have zu7_0 : w.heap.size < w7.heap.size + 1 + 1 := (by omega); have zt7_0 : ¬ w7.heap.size + 1 = w.heap.size := (by omega); have zr7_0 : ¬ w.heap.size = w7.heap.size + 1 := (by omega); have zx7_1 : w2.heap.size < w7.heap.size := (by first | omega | (simp at hzs7; omega)); have zy7_1 : w2.heap.size < w7.heap.size + 1 := (by omega); have zw7_1 : ¬ w7.heap.size = w2.heap.size := (by omega); have zv7_1 : ¬ w2.heap.size = w7.heap.size := (by omega); have zu7_1 : w2.heap.size < w7.heap.size + 1 + 1 := (by omega); have zt7_1 : ¬ w7.heap.size + 1 = w2.heap.size := (by omega); have zr7_1 : ¬ w2.heap.size = w7.heap.size + 1 := (by omega)
        have HB7 := below_gr HB6.out hg7 (by omega) gl
        have hm16 := Hmk.out 16 (by decide)
        have hm17 := Hmk.out 17 (by decide)
        rw [show ((16 : Nat) : Int) = 16 from rfl] at hm16
        rw [show ((17 : Nat) : Int) = 17 from rfl] at hm17
        rcases (by omega : x7 = 0 ∨ x7 = 1) with rfl | rfl
        all_goals
          go_wp2
          simp [bodyPost, results, Try.results21, go_sem, *]
          exact ⟨⟨_, _, _, _, _, _, _, _, _, _, _, rfl, by decide, made_row6 Hz.out.2.1 (by simp)⟩, (by repeat (first | with_reducible exact Below.refl _ _ | with_reducible assumption | with_reducible refine Below.drew ?_ | with_reducible refine below_drewN ?_ _ | with_reducible refine Below.setCell ?_ (by first | exact Nat.le_refl _ | (simp; done) | (simp; omega) | (dsimp only; omega)) _ | with_reducible refine Below.alloc ?_ (by first | exact Nat.le_refl _ | (simp; done) | (simp; omega) | (simp at *; omega)) _ | with_reducible refine bstep ?_ (by assumption)))⟩
      · have k2 : (x6 == 0) = false := beq_eq_false_iff_ne.2 k0
        have HBz := HB6.out
        have HR6 := hide (grown_rowK hg6 (fun b o e => by have := Hfar.out b o e; omega) Hrow.out)
        go_wp2
        simp [bodyPost, results, Try.results21, go_sem, *]
        exact ⟨⟨_, _, _, _, _, _, _, _, _, _, _, rfl, by omega, row_two HR6.out (fun b o e => by have := Hfar.out b o e; omega)⟩, (by repeat (first | with_reducible exact Below.refl _ _ | with_reducible assumption | with_reducible refine Below.drew ?_ | with_reducible refine below_drewN ?_ _ | with_reducible refine Below.setCell ?_ (by first | exact Nat.le_refl _ | (simp; done) | (simp; omega) | (dsimp only; omega)) _ | with_reducible refine Below.alloc ?_ (by first | exact Nat.le_refl _ | (simp; done) | (simp; omega) | (simp at *; omega)) _ | with_reducible refine bstep ?_ (by assumption)))⟩
end Go.Proofs.Ytnmnibpcklcmgaa
