/- Walks: courses are drawn that are rarely not valid. -/
import Derived.Test.YtgcdgdnmcdffoaaGreatDoorYd
import Derived.Deep.LoopGhost
import Derived.Laws.IdiomStrings
import Derived.Laws.Concat
namespace Go.Proofs.YtgcdgdnmcdffoaaGreatDoor
open Go.RowKit

theorem FRowS.new4 {g : Nat} {W : World} (h : g < W.heap.size) (a b c d : ByteArray) (t : TypeId) : FRowS g 4 (.slice (some ⟨W.heap.size, 0, none⟩) 4 4) (W.alloc (.cells #[.string a, .string b, .string c, .string d] t)) :=
 FRowS.new h _ _ fun j hj => by
  rcases (by omega : j = 0 ∨ j = 1 ∨ j = 2 ∨ j = 3) with rfl | rfl | rfl | rfl <;> exact ⟨_, rfl⟩
theorem CoB.set8 {W : World} {b : Nat} {ax ay bx bY cx cy dx dy : Int} {so so' : Option Addr} {n cap n' cap' : Nat} (h : CoB W b ax ay bx bY cx cy dx dy so n cap) : CoB (W.setCell ⟨b, 8, none⟩ (.slice so' n' cap')) b ax ay bx bY cx cy dx dy so' n' cap' := by
 obtain ⟨c0, c1, c2, c3, c4, c5, c6, c7, c8, f0, f1, f2, f3, f4, f5, f6, f7, f8⟩ := h
 exact ⟨cell_off c0 (.inr (show (8 : Nat) ≠ 0 by decide)), cell_off c1 (.inr (show (8 : Nat) ≠ 1 by decide)), cell_off c2 (.inr (show (8 : Nat) ≠ 2 by decide)), cell_off c3 (.inr (show (8 : Nat) ≠ 3 by decide)), cell_off c4 (.inr (show (8 : Nat) ≠ 4 by decide)), cell_off c5 (.inr (show (8 : Nat) ≠ 5 by decide)), cell_off c6 (.inr (show (8 : Nat) ≠ 6 by decide)), cell_off c7 (.inr (show (8 : Nat) ≠ 7 by decide)), cell_same c8, by rw [World.frozen?_setCell]; exact f0, by rw [World.frozen?_setCell]; exact f1, by rw [World.frozen?_setCell]; exact f2, by rw [World.frozen?_setCell]; exact f3, by rw [World.frozen?_setCell]; exact f4, by rw [World.frozen?_setCell]; exact f5, by rw [World.frozen?_setCell]; exact f6, by rw [World.frozen?_setCell]; exact f7, by rw [World.frozen?_setCell]; exact f8⟩
/-- A number below k is drawn, 1 among them. -/
theorem spec_l01NextP (g k : Nat) (w : World) (h : Src w g) (h1 : 1 ≤ k) (h2 : k < 1000000) :
 Calls Tryz.prog 59 #[.pointer (some ⟨g, 0, none⟩), .int .i64 (k : Int)] w fun e w' => (∃ x : Nat, e = .returned (.int .i64 (x : Int)) ∧ x < k) ∧ w.grownBy w' (some g) ∧ Src w' g := by
 by_cases e : k = 1
 ·subst e
  rw [show ((1 : Nat) : Int) = 1 from rfl]
  go_enter Tryz.func59, Tryz.ntmps59
  go_wp2
  go_ret
  exact ⟨⟨0, rfl, by decide⟩, World.grownBy.refl _ _, h⟩
 ·exact spec_l01NextN g k _ w h rfl (by omega) h2
/-- A cell of a mark is written. -/
theorem OwnM.put {w : World} {B n b j f o : Nat} {x : Value} {N N' : Nat → ByteArray} {X Y S Z X' Y' S' Z' : Nat → Int} (h : OwnM w B N X Y S Z n (some ⟨b, 0, none⟩)) (hj : j < n) (hf : f < 5) (ho : o = j * 5 + f) (hv : v5 N' X' Y' S' Z' j f = x)
 (hs : ∀ i q, q < 5 → (i ≠ j ∨ q ≠ f) → v5 N' X' Y' S' Z' i q = v5 N X Y S Z i q) : OwnM (w.setCell ⟨b, o, none⟩ x) B N' X' Y' S' Z' n (some ⟨b, 0, none⟩) := by
 rcases h with ⟨h, _⟩ | ⟨g', e, h3, h4, h5⟩
 ·cases h
 ·injection e with e
  injection e with e
  subst e
  refine .inr ⟨b, rfl, h3, by simpa [World.setCell] using h4, fun i hi q hq => ⟨?_, by rw [World.frozen?_setCell]; exact (h5 i hi q hq).2⟩⟩
  by_cases e : i = j ∧ q = f
  ·obtain ⟨rfl, rfl⟩ := e
   subst ho
   rw [hv]
   exact cell_same (h5 i hi q hq).1
  ·rw [hs i q hq (by omega)]
   exact cell_off (h5 i hi q hq).1 (.inr (by dsimp only; omega))
theorem OwnM.putN {w : World} {B n b j : Nat} {s : ByteArray} {N : Nat → ByteArray} {X Y S Z : Nat → Int} (h : OwnM w B N X Y S Z n (some ⟨b, 0, none⟩)) (hj : j < n) : OwnM (w.setCell ⟨b, j * 5, none⟩ (.string s)) B (more N j s) X Y S Z n (some ⟨b, 0, none⟩) :=
 h.put (f := 0) hj (by decide) rfl (by simp [v5, more]) (fun i q hq hne => by rcases (by omega : q = 0 ∨ q = 1 ∨ q = 2 ∨ q = 3 ∨ q = 4) with rfl | rfl | rfl | rfl | rfl <;> simp [v5, more] <;> intros <;> omega)
theorem OwnM.putX {w : World} {B n b j : Nat} {s : Int} {N : Nat → ByteArray} {X Y S Z : Nat → Int} (h : OwnM w B N X Y S Z n (some ⟨b, 0, none⟩)) (hj : j < n) : OwnM (w.setCell ⟨b, j * 5 + 1, none⟩ (.int .i64 s)) B N (more X j s) Y S Z n (some ⟨b, 0, none⟩) :=
 h.put (f := 1) hj (by decide) rfl (by simp [v5, more]) (fun i q hq hne => by rcases (by omega : q = 0 ∨ q = 1 ∨ q = 2 ∨ q = 3 ∨ q = 4) with rfl | rfl | rfl | rfl | rfl <;> simp [v5, more] <;> intros <;> omega)
theorem OwnM.putY {w : World} {B n b j : Nat} {s : Int} {N : Nat → ByteArray} {X Y S Z : Nat → Int} (h : OwnM w B N X Y S Z n (some ⟨b, 0, none⟩)) (hj : j < n) : OwnM (w.setCell ⟨b, j * 5 + 2, none⟩ (.int .i64 s)) B N X (more Y j s) S Z n (some ⟨b, 0, none⟩) :=
 h.put (f := 2) hj (by decide) rfl (by simp [v5, more]) (fun i q hq hne => by rcases (by omega : q = 0 ∨ q = 1 ∨ q = 2 ∨ q = 3 ∨ q = 4) with rfl | rfl | rfl | rfl | rfl <;> simp [v5, more] <;> intros <;> omega)
theorem OwnM.putS {w : World} {B n b j : Nat} {s : Int} {N : Nat → ByteArray} {X Y S Z : Nat → Int} (h : OwnM w B N X Y S Z n (some ⟨b, 0, none⟩)) (hj : j < n) : OwnM (w.setCell ⟨b, j * 5 + 3, none⟩ (.int .i64 s)) B N X Y (more S j s) Z n (some ⟨b, 0, none⟩) :=
 h.put (f := 3) hj (by decide) rfl (by simp [v5, more]) (fun i q hq hne => by rcases (by omega : q = 0 ∨ q = 1 ∨ q = 2 ∨ q = 3 ∨ q = 4) with rfl | rfl | rfl | rfl | rfl <;> simp [v5, more] <;> intros <;> omega)
theorem OwnM.putZ {w : World} {B n b j : Nat} {s : Int} {N : Nat → ByteArray} {X Y S Z : Nat → Int} (h : OwnM w B N X Y S Z n (some ⟨b, 0, none⟩)) (hj : j < n) : OwnM (w.setCell ⟨b, j * 5 + 4, none⟩ (.int .i64 s)) B N X Y S (more Z j s) n (some ⟨b, 0, none⟩) :=
 h.put (f := 4) hj (by decide) rfl (by simp [v5, more]) (fun i q hq hne => by rcases (by omega : q = 0 ∨ q = 1 ∨ q = 2 ∨ q = 3 ∨ q = 4) with rfl | rfl | rfl | rfl | rfl <;> simp [v5, more] <;> intros <;> omega)
theorem OwnM.cell {w : World} {B n b i j : Nat} {N : Nat → ByteArray} {X Y S Z : Nat → Int} (h : OwnM w B N X Y S Z n (some ⟨b, 0, none⟩)) (hi : i < n) (hj : j < 5) : w.cell? ⟨b, i * 5 + j, none⟩ = some (v5 N X Y S Z i j) ∧ w.frozen? ⟨b, i * 5 + j, none⟩ = false := by
 rcases h with ⟨h, _⟩ | ⟨g', e, h3, h4, h5⟩
 ·cases h
 ·injection e with e
  injection e with e
  subst e
  exact h5 i hi j hj
/-- A string of one letter; a number of at most 9; a comparison that holds of at most 8 alone. -/
def FStr1 (v : Value) (_W : World) : Prop := ∃ s : ByteArray, v = .string s ∧ s.size = 1
theorem FStr1.later {v : Value} {W W' : World} {g : Nat} (_hg : W.grownBy W' (some g)) (h : FStr1 v W) : FStr1 v W' := h
theorem add_one1 {P : Program} {s : ByteArray} (h : s.size = 1) (W : World) : (Op.stringOp .add (ByteArray.mk #[110]) s).run P W = .ok (.string (ByteArray.mk #[110] ++ s)) W := run_string_add_sum W _ _ (by rw [h]; decide)
def FI9 (v : Value) : Prop := ∃ x : Int, v = .int .i64 x ∧ x ≤ 9
def FLt8 (n : Nat) (v : Value) : Prop := ∃ c : Bool, v = .bool c ∧ (c = true → n ≤ 8)
set_option maxRecDepth 100000 in
theorem spec_l01Number_d (q : Nat) (w : World) (h : q ≤ 9) : Calls Tryz.prog 123 #[.int .i64 (q : Int)] w fun e w' => (∃ s : ByteArray, e = .returned (.string s) ∧ s.size = 1) ∧ Below w.heap.size w w' := by
 have hcv : ∀ (W : World) (b cap : Nat), W.cell? ⟨b, 0, none⟩ = some (.int .u8 (48 + (q : Int))) → (convert 22 9 (.slice (some ⟨b, 0, none⟩) 1 cap)).run Tryz.prog W = .ok (.string ⟨[UInt8.ofNat (48 + q)].toArray⟩) W := fun W b cap hc =>
  run_convert_bytes_back W 22 9 5 ⟨b, 0, none⟩ cap [UInt8.ofNat (48 + q)] Tryz.underlying22 Tryz.underlying5 Tryz.underlying9 (fun j hj => by
   obtain rfl : j = 0 := by simpa using hj
   rcases (by omega : q = 0 ∨ q = 1 ∨ q = 2 ∨ q = 3 ∨ q = 4 ∨ q = 5 ∨ q = 6 ∨ q = 7 ∨ q = 8 ∨ q = 9) with rfl | rfl | rfl | rfl | rfl | rfl | rfl | rfl | rfl | rfl <;> exact hc)
 rcases (by omega : q = 0 ∨ q = 1 ∨ q = 2 ∨ q = 3 ∨ q = 4 ∨ q = 5 ∨ q = 6 ∨ q = 7 ∨ q = 8 ∨ q = 9) with rfl | rfl | rfl | rfl | rfl | rfl | rfl | rfl | rfl | rfl
 all_goals
  go_enter Tryz.func123, Tryz.ntmps123
  go_wp2
  go_ret
  exact ⟨⟨_, rfl, rfl⟩, bwz⟩

set_option maxRecDepth 100000 in
set_option maxHeartbeats 16000000 in
theorem spec_l04DrawAny (g : Nat) (w : World) (h : Src w g) : Calls Tryz.prog 75 #[.pointer (some ⟨g, 0, none⟩)] w (CoC 0 9 w g) := by
 have ng := Src.lt h
 have nz0 : ¬ w.heap.size = g := by omega
 have nz1 : ¬ g = w.heap.size := by omega
 obtain ⟨i0, hi, hz0, hz1, hz2⟩ := info_parts infoMk
 have Hi := hide hi
 have Hz := hide (And.intro hz0 (And.intro hz1 hz2))
 clear hi hz0 hz1 hz2
 go_enter Tryz.func75, Tryz.ntmps75
 go_wp2_with fail; (with_reducible refine (spec_l04Draw g _ swz).mono ?_); rintro e w1 ⟨⟨ax, ay, bx, bY, cx, cy, dx, dy, so, n, cap, N, X, Y, S, Z, rfl, q1, q2, q3, hA, ho⟩, hg1, hs1⟩; have hc1 := gcell hg1; have hf1 := gfroz hg1; have lg1 := Src.lt hs1; have nga1 : ¬ w1.heap.size = g := (by omega); have ngb1 : ¬ g = w1.heap.size := (by omega); have hzs1 := hg1.size; (try simp at hzs1); have zx1_0 : w.heap.size < w1.heap.size := (by first | omega | (simp at hzs1; omega)); have zy1_0 : w.heap.size < w1.heap.size + 1 := (by omega); have zw1_0 : ¬ w1.heap.size = w.heap.size := (by omega); have zv1_0 : ¬ w.heap.size = w1.heap.size := (by omega); have zu1_0 : w.heap.size < w1.heap.size + 1 + 1 := (by omega); have zt1_0 : ¬ w1.heap.size + 1 = w.heap.size := (by omega); have zr1_0 : ¬ w.heap.size = w1.heap.size + 1 := (by omega)
 simp only [size_al] at ho
 obtain ⟨b, rfl, hbB, hbl, _⟩ := ho.blk (by omega)
 have Ho1 := hide ho
 have HA := hide hA
 clear ho hA
 have nb0 : ¬ b = w.heap.size := by omega
 have nb1 : ¬ w.heap.size = b := by omega
 have nb2 : ¬ b = w1.heap.size := by omega
 have nb3 : ¬ w1.heap.size = b := by omega
 have nb4 : ¬ b = g := by omega
 go_wp2_with fail; (with_reducible refine (spec_l01NextP g n _ swz (by omega) (by omega)).mono ?_); rintro e w2 ⟨⟨j, rfl, hjn⟩, hg2, hs2⟩; have hc2 := gcell hg2; have hf2 := gfroz hg2; have lg2 := Src.lt hs2; have nga2 : ¬ w2.heap.size = g := (by omega); have ngb2 : ¬ g = w2.heap.size := (by omega); have hzs2 := hg2.size; (try simp at hzs2); have zx2_0 : w.heap.size < w2.heap.size := (by first | omega | (simp at hzs2; omega)); have zy2_0 : w.heap.size < w2.heap.size + 1 := (by omega); have zw2_0 : ¬ w2.heap.size = w.heap.size := (by omega); have zv2_0 : ¬ w.heap.size = w2.heap.size := (by omega); have zu2_0 : w.heap.size < w2.heap.size + 1 + 1 := (by omega); have zt2_0 : ¬ w2.heap.size + 1 = w.heap.size := (by omega); have zr2_0 : ¬ w.heap.size = w2.heap.size + 1 := (by omega); have zx2_1 : w1.heap.size < w2.heap.size := (by first | omega | (simp at hzs2; omega)); have zy2_1 : w1.heap.size < w2.heap.size + 1 := (by omega); have zw2_1 : ¬ w2.heap.size = w1.heap.size := (by omega); have zv2_1 : ¬ w1.heap.size = w2.heap.size := (by omega); have zu2_1 : w1.heap.size < w2.heap.size + 1 + 1 := (by omega); have zt2_1 : ¬ w2.heap.size + 1 = w1.heap.size := (by omega); have zr2_1 : ¬ w1.heap.size = w2.heap.size + 1 := (by omega); have zx2_2 : b < w2.heap.size := (by first | omega | (simp at hzs2; omega)); have zy2_2 : b < w2.heap.size + 1 := (by omega); have zw2_2 : ¬ w2.heap.size = b := (by omega); have zv2_2 : ¬ b = w2.heap.size := (by omega); have zu2_2 : b < w2.heap.size + 1 + 1 := (by omega); have zt2_2 : ¬ w2.heap.size + 1 = b := (by omega); have zr2_2 : ¬ b = w2.heap.size + 1 := (by omega)
 go_wp2_with fail; (with_reducible refine (spec_l01Next g 30 _ swz (by decide)).mono ?_); rintro e w3 ⟨⟨x3, rfl, hx3⟩, hg3, hs3⟩; have hc3 := gcell hg3; have hf3 := gfroz hg3; have lg3 := Src.lt hs3; have nga3 : ¬ w3.heap.size = g := (by omega); have ngb3 : ¬ g = w3.heap.size := (by omega); have hzs3 := hg3.size; (try simp at hzs3); have zx3_0 : w.heap.size < w3.heap.size := (by first | omega | (simp at hzs3; omega)); have zy3_0 : w.heap.size < w3.heap.size + 1 := (by omega); have zw3_0 : ¬ w3.heap.size = w.heap.size := (by omega); have zv3_0 : ¬ w.heap.size = w3.heap.size := (by omega); have zu3_0 : w.heap.size < w3.heap.size + 1 + 1 := (by omega); have zt3_0 : ¬ w3.heap.size + 1 = w.heap.size := (by omega); have zr3_0 : ¬ w.heap.size = w3.heap.size + 1 := (by omega); have zx3_1 : w1.heap.size < w3.heap.size := (by first | omega | (simp at hzs3; omega)); have zy3_1 : w1.heap.size < w3.heap.size + 1 := (by omega); have zw3_1 : ¬ w3.heap.size = w1.heap.size := (by omega); have zv3_1 : ¬ w1.heap.size = w3.heap.size := (by omega); have zu3_1 : w1.heap.size < w3.heap.size + 1 + 1 := (by omega); have zt3_1 : ¬ w3.heap.size + 1 = w1.heap.size := (by omega); have zr3_1 : ¬ w1.heap.size = w3.heap.size + 1 := (by omega); have zx3_2 : b < w3.heap.size := (by first | omega | (simp at hzs3; omega)); have zy3_2 : b < w3.heap.size + 1 := (by omega); have zw3_2 : ¬ w3.heap.size = b := (by omega); have zv3_2 : ¬ b = w3.heap.size := (by omega); have zu3_2 : b < w3.heap.size + 1 + 1 := (by omega); have zt3_2 : ¬ w3.heap.size + 1 = b := (by omega); have zr3_2 : ¬ b = w3.heap.size + 1 := (by omega)
 clear hx3
 have hzz1 := hg1.size
 have hzz2 := hg2.size
 have hzz3 := hg3.size
 simp only [size_al] at hzz1 hzz2 hzz3
 have n1g : ¬ w1.heap.size = g := by omega
 have z01 : w.heap.size < w1.heap.size := by omega
 have n01 : ¬ w.heap.size = w1.heap.size := by omega
 have n10 : ¬ w1.heap.size = w.heap.size := by omega
 have HC := hide (show CoB w3 w1.heap.size ax ay bx bY cx cy dx dy (some ⟨b, 0, none⟩) n cap from ⟨by go_simp, by go_simp, by go_simp, by go_simp, by go_simp, by go_simp, by go_simp, by go_simp, by go_simp, by go_simp, by go_simp, by go_simp, by go_simp, by go_simp, by go_simp, by go_simp, by go_simp, by go_simp⟩)
 have HR := hide (mine_grow (mine_grow (Mine.later (Below.alloc (Below.refl _ _) (Nat.le_refl _) (.cells #[.int .i64 ax, .int .i64 ay, .int .i64 bx, .int .i64 bY, .int .i64 cx, .int .i64 cy, .int .i64 dx, .int .i64 dy, .slice (some ⟨b, 0, none⟩) n cap] 30)) (mine_grow (mine_make (m := 9) rfl) hg1 (by simp) (by omega))) hg2 (by simp; omega) (by omega)) hg3 (by omega) (by omega))
 have HO := hide (((Ho1.out.later (Below.alloc (Below.refl _ _) (Nat.le_refl _) (.cells #[.int .i64 ax, .int .i64 ay, .int .i64 bx, .int .i64 bY, .int .i64 cx, .int .i64 cy, .int .i64 dx, .int .i64 dy, .slice (some ⟨b, 0, none⟩) n cap] 30))).grown hg2 (by omega)).grown hg3 (by omega))
 have HG := hide (show w.grownBy w3 (some g) from gr_step (gr_step (show w.grownBy _ (some g) from gr_alloc (gr_step (gr_alloc (World.grownBy.refl _ _) _) hg1) _) hg2) hg3)
 have HS := hide hs3
 clear hc1 hf1 hc2 hf2 hc3 hf3 hg1 hg2 hs1 hs2 Ho1
 have zw0 : w.heap.size < w3.heap.size := by omega
 have zw1 : w1.heap.size < w3.heap.size := by omega
 have zwb : b < w3.heap.size := by omega
 have hgA := HG.out
 clear hg3
 have hj1 : (0 : Int) ≤ (j : Int) := by omega
 have hj2 : (j : Int) < (n : Int) := by omega
 by_cases k0 : x3 = 0
 ·subst k0
  have m0 : w3.cell? ⟨b, j * 5, none⟩ = some (.string (N j)) := (HO.out.cell hjn (show 0 < 5 by decide)).1
  have mf0 : w3.frozen? ⟨b, j * 5, none⟩ = false := (HO.out.cell hjn (show 0 < 5 by decide)).2
  have c8 := HC.out.2.2.2.2.2.2.2.2.1
  go_upto_region 5 with fail
  have HwE : World.grownBy w w3 (some g) := gwz
  have HcE0 : World.cell? w3 ⟨w1.heap.size, 8, none⟩ = some (.slice (some ⟨b, 0, none⟩) n cap) := (by go_simp)
  refine wp_region_held_drew (S := fun W => W.cell? ⟨w1.heap.size, 8, none⟩ = some (.slice (some ⟨b, 0, none⟩) n cap) ∧ World.grownBy w W (some g) ∧ Src W g) (by kernel_rfl) ⟨HcE0, gr_drew HwE, by assumption⟩ (fun hHeld => ?_)
  refine tkD 0 (some 17) rfl ?_; simp only [pz]
  refine tkD 1 (some 18) rfl ?_; simp only [pz]
  refine tkD 2 (some 19) rfl ?_; simp only [pz]
  refine tkD 4 (some 21) rfl ?_; simp only [pz]
  refine wpAnyH_inv2 (fuel := 1) [3, 5, 6, 7, 9] [8] [20, 22, 23, 24, 25, 26] (fun u L W => (World.grownBy w3 W (some g) ∧ Src W g) ∧ (L 3 → FRowS g 4 (u 20) W) ∧ (L 5 → FNat 4 (u 22)) ∧ (L 6 → FAddrS g (u 23) W) ∧ (L 7 → FStr (u 24)) ∧ (L 8 → (u 25) = (.pointer (some ⟨b, j * 5, none⟩))) ∧ (L 9 → (u 26) = (.pointer (some ⟨b, j * 5, none⟩))) ∧ True) (by decide) (by kernel_rfl) (by kernel_rfl) (fun _ _ _ _ _ h => h) (fun u L W hJ => ⟨cell_grown hJ.1.1 (by omega) HcE0, HwE.trans hJ.1.1, hJ.1.2⟩) (fun u L hL => ⟨⟨gr_drew (World.grownBy.refl _ _), by assumption⟩, fun k => absurd k (hL 3 (by decide)), fun k => absurd k (hL 5 (by decide)), fun k => absurd k (hL 6 (by decide)), fun k => absurd k (hL 7 (by decide)), fun k => absurd k (hL 8 (by decide)), fun k => absurd k (hL 9 (by decide)), trivial⟩) ?_ ?_ ?_
  ·refine sc1 20 ?_ ?_
   rotate_left
   refine sc1 22 ?_ ?_
   rotate_left
   refine sc1 23 ?_ ?_
   rotate_left
   refine sc1 24 ?_ ?_
   rotate_left
   refine sc1 26 ?_ ?_
   rotate_left
   exact StepsH.nil
   ·intro u L W hn hd hJ
    obtain ⟨hk, f20, f22, f23, f24, f25, f26, _⟩ := hJ
    have hnd := hk.2
    intro K hK
    simp only [puts, pz]
    go_simp
    all_goals (try go_wp2_with fail)
    all_goals
     apply Shut.go3 (W := W) (g := g) hK
     ·simp only [puts, pz]; rfl
     ·exact gbz
     ·exact sbz
     ·intro hg hs; exact ⟨Dr.step hk hg hs, fun _ => by rw [upd_same]; exact FRowS.new4 (Src.lt hnd) _ _ _ _ _, unz f22, unz fun h => FAddrS.later hg (f23 h), unz f24, unz f25, unz f26, trivial⟩
   ·intro u L W hn hd hJ
    obtain ⟨hk, f20, f22, f23, f24, f25, f26, _⟩ := hJ
    have hnd := hk.2
    intro K hK
    simp only [puts, pz]
    go_simp; (go_at_call 59; (with_reducible refine (spec_l01NextN g 4 4 _ hnd (by decide) (by decide) (by decide)).mono ?_); rintro e w9 ⟨⟨xx, rfl, hxx⟩, hg, hs⟩)
    all_goals (try go_wp2_with fail)
    all_goals
     apply Shut.go3 (W := W) (g := g) hK
     ·simp only [puts, pz]; rfl
     ·exact gbz
     ·exact sbz
     ·intro hg hs; exact ⟨Dr.step hk hg hs, unz fun h => FRowS.later hg (f20 h), fun _ => by rw [upd_same]; exact ⟨_, rfl, by first | assumption | omega⟩, unz fun h => FAddrS.later hg (f23 h), unz f24, unz f25, unz f26, trivial⟩
   ·intro u L W hn hd hJ
    obtain ⟨hk, f20, f22, f23, f24, f25, f26, _⟩ := hJ
    have hnd := hk.2
    obtain ⟨b20, e20, nb20, lb20, cb20⟩ := f20 (hd 3 (by kernel_rfl))
    obtain ⟨x22, e22, l22⟩ := f22 (hd 5 (by kernel_rfl))
    have il22 : (0 : Int) ≤ (x22 : Int) := (by omega); have iu22 : (x22 : Int) < (4 : Int) := (by omega)
    intro K hK
    simp only [puts, pz, e20, e22]
    go_simp
    all_goals (try go_wp2_with fail)
    all_goals
     apply Shut.go3 (W := W) (g := g) hK
     ·simp only [puts, pz, e20, e22]; rfl
     ·exact gbz
     ·exact sbz
     ·intro hg hs; exact ⟨Dr.step hk hg hs, unz fun h => FRowS.later hg (f20 h), unz f22, fun _ => by rw [upd_same]; exact ⟨_, _, rfl, nb20, lb20, cb20 _ (by omega)⟩, unz f24, unz f25, unz f26, trivial⟩
   ·intro u L W hn hd hJ
    obtain ⟨hk, f20, f22, f23, f24, f25, f26, _⟩ := hJ
    have hnd := hk.2
    obtain ⟨b23, o23, e23, nb23, lb23, z23, cz23⟩ := f23 (hd 6 (by kernel_rfl))
    intro K hK
    simp only [puts, pz, e23]
    go_simp
    all_goals (try go_wp2_with fail)
    all_goals
     apply Shut.go3 (W := W) (g := g) hK
     ·simp only [puts, pz, e23]; rfl
     ·exact gbz
     ·exact sbz
     ·intro hg hs; exact ⟨Dr.step hk hg hs, unz fun h => FRowS.later hg (f20 h), unz f22, unz fun h => FAddrS.later hg (f23 h), fun _ => by rw [upd_same]; exact ⟨_, rfl⟩, unz f25, unz f26, trivial⟩
   ·intro u L W hn hd hJ
    obtain ⟨hk, f20, f22, f23, f24, f25, f26, _⟩ := hJ
    have hnd := hk.2
    obtain e25 := f25 (hd 8 (by kernel_rfl))
    intro K hK
    simp only [puts, pz, e25]
    go_simp
    all_goals (try go_wp2_with fail)
    all_goals
     apply Shut.go3 (W := W) (g := g) hK
     ·simp only [puts, pz, e25]; rfl
     ·exact gbz
     ·exact sbz
     ·intro hg hs; exact ⟨Dr.step hk hg hs, unz fun h => FRowS.later hg (f20 h), unz f22, unz fun h => FAddrS.later hg (f23 h), unz f24, unz f25, fun _ => upd_same _ _ _, trivial⟩
  ·refine PuresH.cons (d := 25) (o := ⟨some 25, _, _, _, _, _⟩) rfl rfl (by kernel_rfl) (by kernel_rfl) ?_ ?_
   rotate_left
   exact PuresH.nil
   ·intro u L W hn hd hJ
    obtain ⟨hk, f20, f22, f23, f24, f25, f26, _⟩ := hJ
    have hnd := hk.2
    simp only [puts, pz]
    refine ⟨?_, Or.inl ⟨by kernel_rfl, ?_⟩, ?_⟩; rotate_left; focus (intro W0 hSw; (try dsimp only at hSw); go_simp; (try with_reducible rfl))
    exact ⟨hk, unz f20, unz f22, unz f23, unz f24, fun _ => upd_same _ _ _, unz f26, trivial⟩
  ·intro u L W hJ hL
   obtain ⟨hk, f20, f22, f23, f24, f25, f26, _⟩ := hJ
   obtain ⟨b20, e20, nb20, lb20, cb20⟩ := f20 (hL 3 (by kernel_rfl))
   obtain ⟨x22, e22, l22⟩ := f22 (hL 5 (by kernel_rfl))
   obtain ⟨b23, o23, e23, nb23, lb23, z23, cz23⟩ := f23 (hL 6 (by kernel_rfl))
   obtain ⟨x24, e24⟩ := f24 (hL 7 (by kernel_rfl))
   obtain e25 := f25 (hL 8 (by kernel_rfl))
   obtain e26 := f26 (hL 9 (by kernel_rfl))
   clear hHeld; have hcW := gcell hk.1; have hfW := gfroz hk.1; have hHeld := And.intro (HwE.trans hk.1) hk.2; have lW := hk.1.size
   clear f20
   clear f22
   clear f23
   clear f24
   clear f25
   clear f26
   simp only [puts, pz, Array.replicate, e20, e22, e23, e24, e25, e26]
   refine rd1 10 none rfl (fun K hK => ?_)
   go_simp
   all_goals (try go_wp2_with fail)
   refine hK.out _ _ ?_ (fun hH2 => ?_)
   ·have hHg := hHeld.1; have hHs := hHeld.2; exact ⟨(by go_simp; done), gwz, swz⟩
   clear hK K hHeld; (have hHeld := hH2.2); clear hH2; (try simp only [Act.put])
   refine wpAnyH_done (by kernel_rfl) ?_ _; (try simp only [pz])
   obtain ⟨hgE, hsE⟩ := hHeld
   obtain ⟨wF, hF⟩ : ∃ x, x = W.setCell ⟨b, j * 5, none⟩ (.string x24) := ⟨_, rfl⟩
   have zW := hk.1.size
   have HOF := hide (show OwnM wF (w.heap.size + 1) (more N j x24) X Y S Z n (some ⟨b, 0, none⟩) by rw [hF]; exact (HO.out.grown hk.1 (by omega)).putN hjn)
   have HCF := hide (show CoB wF w1.heap.size ax ay bx bY cx cy dx dy (some ⟨b, 0, none⟩) n cap by rw [hF]; exact (HC.out.grown hk.1 (by omega) (by omega)).far (by omega))
   have HRF := hide (show Mine wF w.heap.size 9 by rw [hF]; exact Mine.set (mine_grow HR.out hk.1 (by omega) (by omega)))
   have zF : wF.heap.size = W.heap.size := by rw [hF]; simp [World.setCell]
   rw [← hF] at hgE hsE ⊢
   have HSF := hide hsE
   have HGF := hide hgE
   have zF0 : w.heap.size < wF.heap.size := by omega
   have zF1 : w1.heap.size < wF.heap.size := by omega
   clear hF hcW hfW hk hgE hsE HC HR HO HG HS
   obtain ⟨c0, c1, c2, c3, c4, c5, c6, c7, c8, f0, f1, f2, f3, f4, f5, f6, f7, f8⟩ := HCF.out
   obtain ⟨v0, cy0, fy0⟩ := HRF.out.cells 0 (by decide)
   obtain ⟨v1, cy1, fy1⟩ := HRF.out.cells 1 (by decide)
   obtain ⟨v2, cy2, fy2⟩ := HRF.out.cells 2 (by decide)
   obtain ⟨v3, cy3, fy3⟩ := HRF.out.cells 3 (by decide)
   obtain ⟨v4, cy4, fy4⟩ := HRF.out.cells 4 (by decide)
   obtain ⟨v5, cy5, fy5⟩ := HRF.out.cells 5 (by decide)
   obtain ⟨v6, cy6, fy6⟩ := HRF.out.cells 6 (by decide)
   obtain ⟨v7, cy7, fy7⟩ := HRF.out.cells 7 (by decide)
   obtain ⟨v8, cy8, fy8⟩ := HRF.out.cells 8 (by decide)
   have HA9 := HA.out
   have hsF := HSF.out
   have hgF := HGF.out
   go_wp2
   simp [bodyPost, results, Tryz.results75, go_sem, *]
   exact ⟨⟨_, _, _, _, _, _, _, _, some ⟨b, 0, none⟩, n, _, (more N j x24), X, Y, S, Z, rfl, by omega, by omega, by omega, HA9, by refine OwnM.mono (B := w.heap.size + 1) ?_ (by omega); (repeat (first | with_reducible refine OwnM.far ?_ (by omega) | with_reducible refine OwnM.off ?_ (by omega))); exact HOF.out⟩, gwz, swz⟩
 have c0x : (x3 == 0) = false := beq_eq_false_iff_ne.2 k0
 by_cases k1 : x3 = 1
 ·subst k1
  have m0 : w3.cell? ⟨b, j * 5 + 3, none⟩ = some (.int .i64 (S j)) := (HO.out.cell hjn (show 3 < 5 by decide)).1
  have mf0 : w3.frozen? ⟨b, j * 5 + 3, none⟩ = false := (HO.out.cell hjn (show 3 < 5 by decide)).2
  have c8 := HC.out.2.2.2.2.2.2.2.2.1
  go_upto_region 7 with fail
  have HwE : World.grownBy w w3 (some g) := gwz
  have HcE0 : World.cell? w3 ⟨w1.heap.size, 8, none⟩ = some (.slice (some ⟨b, 0, none⟩) n cap) := (by go_simp)
  refine wp_region_held_drew (S := fun W => W.cell? ⟨w1.heap.size, 8, none⟩ = some (.slice (some ⟨b, 0, none⟩) n cap) ∧ World.grownBy w W (some g) ∧ Src W g) (by kernel_rfl) ⟨HcE0, gr_drew HwE, by assumption⟩ (fun hHeld => ?_)
  refine tkD 0 (some 29) rfl ?_; simp only [pz]
  refine tkD 1 (some 30) rfl ?_; simp only [pz]
  refine tkD 2 (some 31) rfl ?_; simp only [pz]
  refine tkD 3 (some 32) rfl ?_; simp only [pz]
  refine wpAnyH_inv2 (fuel := 1) [4, 5, 7] [6] [33, 34, 35, 36] (fun u L W => (World.grownBy w3 W (some g) ∧ Src W g) ∧ (L 4 → FNat 2 (u 33)) ∧ (L 5 → FInt (u 34)) ∧ (L 6 → (u 35) = (.pointer (some ⟨b, j * 5, none⟩))) ∧ (L 7 → (u 36) = (.pointer (some ⟨b, j * 5 + 3, none⟩))) ∧ True) (by decide) (by kernel_rfl) (by kernel_rfl) (fun _ _ _ _ _ h => h) (fun u L W hJ => ⟨cell_grown hJ.1.1 (by omega) HcE0, HwE.trans hJ.1.1, hJ.1.2⟩) (fun u L hL => ⟨⟨gr_drew (World.grownBy.refl _ _), by assumption⟩, fun k => absurd k (hL 4 (by decide)), fun k => absurd k (hL 5 (by decide)), fun k => absurd k (hL 6 (by decide)), fun k => absurd k (hL 7 (by decide)), trivial⟩) ?_ ?_ ?_
  ·refine sc1 33 ?_ ?_
   rotate_left
   refine sc1 34 ?_ ?_
   rotate_left
   refine sc1 36 ?_ ?_
   rotate_left
   exact StepsH.nil
   ·intro u L W hn hd hJ
    obtain ⟨hk, f33, f34, f35, f36, _⟩ := hJ
    have hnd := hk.2
    intro K hK
    simp only [puts, pz]
    go_simp; (go_at_call 59; (with_reducible refine (spec_l01NextN g 2 2 _ hnd (by decide) (by decide) (by decide)).mono ?_); rintro e w9 ⟨⟨xx, rfl, hxx⟩, hg, hs⟩)
    all_goals (try go_wp2_with fail)
    all_goals
     apply Shut.go3 (W := W) (g := g) hK
     ·simp only [puts, pz]; rfl
     ·exact gbz
     ·exact sbz
     ·intro hg hs; exact ⟨Dr.step hk hg hs, fun _ => by rw [upd_same]; exact ⟨_, rfl, by first | assumption | omega⟩, unz f34, unz f35, unz f36, trivial⟩
   ·intro u L W hn hd hJ
    obtain ⟨hk, f33, f34, f35, f36, _⟩ := hJ
    have hnd := hk.2
    obtain ⟨x33, e33, l33⟩ := f33 (hd 4 (by kernel_rfl))
    have il33 : (0 : Int) ≤ (x33 : Int) := (by omega); have iu33 : (x33 : Int) < (2 : Int) := (by omega)
    intro K hK
    simp only [puts, pz, e33]
    go_simp
    all_goals (try go_wp2_with fail)
    all_goals
     apply Shut.go3 (W := W) (g := g) hK
     ·simp only [puts, pz, e33]; rfl
     ·exact gbz
     ·exact sbz
     ·intro hg hs; exact ⟨Dr.step hk hg hs, unz f33, fun _ => by rw [upd_same]; exact ⟨_, rfl⟩, unz f35, unz f36, trivial⟩
   ·intro u L W hn hd hJ
    obtain ⟨hk, f33, f34, f35, f36, _⟩ := hJ
    have hnd := hk.2
    obtain e35 := f35 (hd 6 (by kernel_rfl))
    intro K hK
    simp only [puts, pz, e35]
    go_simp
    all_goals (try go_wp2_with fail)
    all_goals
     apply Shut.go3 (W := W) (g := g) hK
     ·simp only [puts, pz, e35]; rfl
     ·exact gbz
     ·exact sbz
     ·intro hg hs; exact ⟨Dr.step hk hg hs, unz f33, unz f34, unz f35, fun _ => upd_same _ _ _, trivial⟩
  ·refine PuresH.cons (d := 35) (o := ⟨some 35, _, _, _, _, _⟩) rfl rfl (by kernel_rfl) (by kernel_rfl) ?_ ?_
   rotate_left
   exact PuresH.nil
   ·intro u L W hn hd hJ
    obtain ⟨hk, f33, f34, f35, f36, _⟩ := hJ
    have hnd := hk.2
    simp only [puts, pz]
    refine ⟨?_, Or.inl ⟨by kernel_rfl, ?_⟩, ?_⟩; rotate_left; focus (intro W0 hSw; (try dsimp only at hSw); go_simp; (try with_reducible rfl))
    exact ⟨hk, unz f33, unz f34, fun _ => upd_same _ _ _, unz f36, trivial⟩
  ·intro u L W hJ hL
   obtain ⟨hk, f33, f34, f35, f36, _⟩ := hJ
   obtain ⟨x33, e33, l33⟩ := f33 (hL 4 (by kernel_rfl))
   obtain ⟨x34, e34⟩ := f34 (hL 5 (by kernel_rfl))
   obtain e35 := f35 (hL 6 (by kernel_rfl))
   obtain e36 := f36 (hL 7 (by kernel_rfl))
   clear hHeld; have hcW := gcell hk.1; have hfW := gfroz hk.1; have hHeld := And.intro (HwE.trans hk.1) hk.2; have lW := hk.1.size
   clear f33
   clear f34
   clear f35
   clear f36
   simp only [puts, pz, Array.replicate, e33, e34, e35, e36]
   refine rd1 8 none rfl (fun K hK => ?_)
   go_simp
   all_goals (try go_wp2_with fail)
   refine hK.out _ _ ?_ (fun hH2 => ?_)
   ·have hHg := hHeld.1; have hHs := hHeld.2; exact ⟨(by go_simp; done), gwz, swz⟩
   clear hK K hHeld; (have hHeld := hH2.2); clear hH2; (try simp only [Act.put])
   refine wpAnyH_done (by kernel_rfl) ?_ _; (try simp only [pz])
   obtain ⟨hgE, hsE⟩ := hHeld
   obtain ⟨wF, hF⟩ : ∃ x, x = W.setCell ⟨b, j * 5 + 3, none⟩ (.int .i64 x34) := ⟨_, rfl⟩
   have zW := hk.1.size
   have HOF := hide (show OwnM wF (w.heap.size + 1) N X Y (more S j x34) Z n (some ⟨b, 0, none⟩) by rw [hF]; exact (HO.out.grown hk.1 (by omega)).putS hjn)
   have HCF := hide (show CoB wF w1.heap.size ax ay bx bY cx cy dx dy (some ⟨b, 0, none⟩) n cap by rw [hF]; exact (HC.out.grown hk.1 (by omega) (by omega)).far (by omega))
   have HRF := hide (show Mine wF w.heap.size 9 by rw [hF]; exact Mine.set (mine_grow HR.out hk.1 (by omega) (by omega)))
   have zF : wF.heap.size = W.heap.size := by rw [hF]; simp [World.setCell]
   rw [← hF] at hgE hsE ⊢
   have HSF := hide hsE
   have HGF := hide hgE
   have zF0 : w.heap.size < wF.heap.size := by omega
   have zF1 : w1.heap.size < wF.heap.size := by omega
   clear hF hcW hfW hk hgE hsE HC HR HO HG HS
   obtain ⟨c0, c1, c2, c3, c4, c5, c6, c7, c8, f0, f1, f2, f3, f4, f5, f6, f7, f8⟩ := HCF.out
   obtain ⟨v0, cy0, fy0⟩ := HRF.out.cells 0 (by decide)
   obtain ⟨v1, cy1, fy1⟩ := HRF.out.cells 1 (by decide)
   obtain ⟨v2, cy2, fy2⟩ := HRF.out.cells 2 (by decide)
   obtain ⟨v3, cy3, fy3⟩ := HRF.out.cells 3 (by decide)
   obtain ⟨v4, cy4, fy4⟩ := HRF.out.cells 4 (by decide)
   obtain ⟨v5, cy5, fy5⟩ := HRF.out.cells 5 (by decide)
   obtain ⟨v6, cy6, fy6⟩ := HRF.out.cells 6 (by decide)
   obtain ⟨v7, cy7, fy7⟩ := HRF.out.cells 7 (by decide)
   obtain ⟨v8, cy8, fy8⟩ := HRF.out.cells 8 (by decide)
   have HA9 := HA.out
   have hsF := HSF.out
   have hgF := HGF.out
   go_wp2
   simp [bodyPost, results, Tryz.results75, go_sem, *]
   exact ⟨⟨_, _, _, _, _, _, _, _, some ⟨b, 0, none⟩, n, _, N, X, Y, (more S j x34), Z, rfl, by omega, by omega, by omega, HA9, by refine OwnM.mono (B := w.heap.size + 1) ?_ (by omega); (repeat (first | with_reducible refine OwnM.far ?_ (by omega) | with_reducible refine OwnM.off ?_ (by omega))); exact HOF.out⟩, gwz, swz⟩
 have c1x : (x3 == 1) = false := beq_eq_false_iff_ne.2 k1
 by_cases k2 : x3 = 2
 ·subst k2
  have m0 : w3.cell? ⟨b, j * 5 + 4, none⟩ = some (.int .i64 (Z j)) := (HO.out.cell hjn (show 4 < 5 by decide)).1
  have mf0 : w3.frozen? ⟨b, j * 5 + 4, none⟩ = false := (HO.out.cell hjn (show 4 < 5 by decide)).2
  have c8 := HC.out.2.2.2.2.2.2.2.2.1
  go_upto_region 9 with fail
  have HwE : World.grownBy w w3 (some g) := gwz
  have HcE0 : World.cell? w3 ⟨w1.heap.size, 8, none⟩ = some (.slice (some ⟨b, 0, none⟩) n cap) := (by go_simp)
  refine wp_region_held_drew (S := fun W => W.cell? ⟨w1.heap.size, 8, none⟩ = some (.slice (some ⟨b, 0, none⟩) n cap) ∧ World.grownBy w W (some g) ∧ Src W g) (by kernel_rfl) ⟨HcE0, gr_drew HwE, by assumption⟩ (fun hHeld => ?_)
  refine tkD 0 (some 39) rfl ?_; simp only [pz]
  refine tkD 1 (some 40) rfl ?_; simp only [pz]
  refine tkD 2 (some 41) rfl ?_; simp only [pz]
  refine tkD 4 (some 43) rfl ?_; simp only [pz]
  refine wpAnyH_inv2 (fuel := 1) [3, 5, 6, 7, 9] [8] [42, 44, 45, 46, 47, 48] (fun u L W => (World.grownBy w3 W (some g) ∧ Src W g) ∧ (L 3 → FRow g 3 (u 42) W) ∧ (L 5 → FNat 3 (u 44)) ∧ (L 6 → FAddr g (u 45) W) ∧ (L 7 → FInt (u 46)) ∧ (L 8 → (u 47) = (.pointer (some ⟨b, j * 5, none⟩))) ∧ (L 9 → (u 48) = (.pointer (some ⟨b, j * 5 + 4, none⟩))) ∧ True) (by decide) (by kernel_rfl) (by kernel_rfl) (fun _ _ _ _ _ h => h) (fun u L W hJ => ⟨cell_grown hJ.1.1 (by omega) HcE0, HwE.trans hJ.1.1, hJ.1.2⟩) (fun u L hL => ⟨⟨gr_drew (World.grownBy.refl _ _), by assumption⟩, fun k => absurd k (hL 3 (by decide)), fun k => absurd k (hL 5 (by decide)), fun k => absurd k (hL 6 (by decide)), fun k => absurd k (hL 7 (by decide)), fun k => absurd k (hL 8 (by decide)), fun k => absurd k (hL 9 (by decide)), trivial⟩) ?_ ?_ ?_
  ·refine sc1 42 ?_ ?_
   rotate_left
   refine sc1 44 ?_ ?_
   rotate_left
   refine sc1 45 ?_ ?_
   rotate_left
   refine sc1 46 ?_ ?_
   rotate_left
   refine sc1 48 ?_ ?_
   rotate_left
   exact StepsH.nil
   ·intro u L W hn hd hJ
    obtain ⟨hk, f42, f44, f45, f46, f47, f48, _⟩ := hJ
    have hnd := hk.2
    intro K hK
    simp only [puts, pz]
    go_simp
    all_goals (try go_wp2_with fail)
    all_goals
     apply Shut.go3 (W := W) (g := g) hK
     ·simp only [puts, pz]; rfl
     ·exact gbz
     ·exact sbz
     ·intro hg hs; exact ⟨Dr.step hk hg hs, fun _ => by rw [upd_same]; exact FRow.new (Src.lt hnd) _ _ (fun j hj => by rcases (show j = 0 ∨ j = 1 ∨ j = 2 by omega) with rfl | rfl | rfl <;> exact ⟨_, rfl⟩), unz f44, unz fun h => FAddr.later hg (f45 h), unz f46, unz f47, unz f48, trivial⟩
   ·intro u L W hn hd hJ
    obtain ⟨hk, f42, f44, f45, f46, f47, f48, _⟩ := hJ
    have hnd := hk.2
    intro K hK
    simp only [puts, pz]
    go_simp; (go_at_call 59; (with_reducible refine (spec_l01NextN g 3 3 _ hnd (by decide) (by decide) (by decide)).mono ?_); rintro e w9 ⟨⟨xx, rfl, hxx⟩, hg, hs⟩)
    all_goals (try go_wp2_with fail)
    all_goals
     apply Shut.go3 (W := W) (g := g) hK
     ·simp only [puts, pz]; rfl
     ·exact gbz
     ·exact sbz
     ·intro hg hs; exact ⟨Dr.step hk hg hs, unz fun h => FRow.later hg (f42 h), fun _ => by rw [upd_same]; exact ⟨_, rfl, by first | assumption | omega⟩, unz fun h => FAddr.later hg (f45 h), unz f46, unz f47, unz f48, trivial⟩
   ·intro u L W hn hd hJ
    obtain ⟨hk, f42, f44, f45, f46, f47, f48, _⟩ := hJ
    have hnd := hk.2
    obtain ⟨b42, e42, nb42, lb42, cb42⟩ := f42 (hd 3 (by kernel_rfl))
    obtain ⟨x44, e44, l44⟩ := f44 (hd 5 (by kernel_rfl))
    have il44 : (0 : Int) ≤ (x44 : Int) := (by omega); have iu44 : (x44 : Int) < (3 : Int) := (by omega)
    intro K hK
    simp only [puts, pz, e42, e44]
    go_simp
    all_goals (try go_wp2_with fail)
    all_goals
     apply Shut.go3 (W := W) (g := g) hK
     ·simp only [puts, pz, e42, e44]; rfl
     ·exact gbz
     ·exact sbz
     ·intro hg hs; exact ⟨Dr.step hk hg hs, unz fun h => FRow.later hg (f42 h), unz f44, fun _ => by rw [upd_same]; exact FAddr.new nb42 lb42 (cb42 _ (by omega)), unz f46, unz f47, unz f48, trivial⟩
   ·intro u L W hn hd hJ
    obtain ⟨hk, f42, f44, f45, f46, f47, f48, _⟩ := hJ
    have hnd := hk.2
    obtain ⟨b45, o45, e45, nb45, lb45, z45, cz45⟩ := f45 (hd 6 (by kernel_rfl))
    intro K hK
    simp only [puts, pz, e45]
    go_simp
    all_goals (try go_wp2_with fail)
    all_goals
     apply Shut.go3 (W := W) (g := g) hK
     ·simp only [puts, pz, e45]; rfl
     ·exact gbz
     ·exact sbz
     ·intro hg hs; exact ⟨Dr.step hk hg hs, unz fun h => FRow.later hg (f42 h), unz f44, unz fun h => FAddr.later hg (f45 h), fun _ => by rw [upd_same]; exact ⟨_, rfl⟩, unz f47, unz f48, trivial⟩
   ·intro u L W hn hd hJ
    obtain ⟨hk, f42, f44, f45, f46, f47, f48, _⟩ := hJ
    have hnd := hk.2
    obtain e47 := f47 (hd 8 (by kernel_rfl))
    intro K hK
    simp only [puts, pz, e47]
    go_simp
    all_goals (try go_wp2_with fail)
    all_goals
     apply Shut.go3 (W := W) (g := g) hK
     ·simp only [puts, pz, e47]; rfl
     ·exact gbz
     ·exact sbz
     ·intro hg hs; exact ⟨Dr.step hk hg hs, unz fun h => FRow.later hg (f42 h), unz f44, unz fun h => FAddr.later hg (f45 h), unz f46, unz f47, fun _ => upd_same _ _ _, trivial⟩
  ·refine PuresH.cons (d := 47) (o := ⟨some 47, _, _, _, _, _⟩) rfl rfl (by kernel_rfl) (by kernel_rfl) ?_ ?_
   rotate_left
   exact PuresH.nil
   ·intro u L W hn hd hJ
    obtain ⟨hk, f42, f44, f45, f46, f47, f48, _⟩ := hJ
    have hnd := hk.2
    simp only [puts, pz]
    refine ⟨?_, Or.inl ⟨by kernel_rfl, ?_⟩, ?_⟩; rotate_left; focus (intro W0 hSw; (try dsimp only at hSw); go_simp; (try with_reducible rfl))
    exact ⟨hk, unz f42, unz f44, unz f45, unz f46, fun _ => upd_same _ _ _, unz f48, trivial⟩
  ·intro u L W hJ hL
   obtain ⟨hk, f42, f44, f45, f46, f47, f48, _⟩ := hJ
   obtain ⟨b42, e42, nb42, lb42, cb42⟩ := f42 (hL 3 (by kernel_rfl))
   obtain ⟨x44, e44, l44⟩ := f44 (hL 5 (by kernel_rfl))
   obtain ⟨b45, o45, e45, nb45, lb45, z45, cz45⟩ := f45 (hL 6 (by kernel_rfl))
   obtain ⟨x46, e46⟩ := f46 (hL 7 (by kernel_rfl))
   obtain e47 := f47 (hL 8 (by kernel_rfl))
   obtain e48 := f48 (hL 9 (by kernel_rfl))
   clear hHeld; have hcW := gcell hk.1; have hfW := gfroz hk.1; have hHeld := And.intro (HwE.trans hk.1) hk.2; have lW := hk.1.size
   clear f42
   clear f44
   clear f45
   clear f46
   clear f47
   clear f48
   simp only [puts, pz, Array.replicate, e42, e44, e45, e46, e47, e48]
   refine rd1 10 none rfl (fun K hK => ?_)
   go_simp
   all_goals (try go_wp2_with fail)
   refine hK.out _ _ ?_ (fun hH2 => ?_)
   ·have hHg := hHeld.1; have hHs := hHeld.2; exact ⟨(by go_simp; done), gwz, swz⟩
   clear hK K hHeld; (have hHeld := hH2.2); clear hH2; (try simp only [Act.put])
   refine wpAnyH_done (by kernel_rfl) ?_ _; (try simp only [pz])
   obtain ⟨hgE, hsE⟩ := hHeld
   obtain ⟨wF, hF⟩ : ∃ x, x = W.setCell ⟨b, j * 5 + 4, none⟩ (.int .i64 x46) := ⟨_, rfl⟩
   have zW := hk.1.size
   have HOF := hide (show OwnM wF (w.heap.size + 1) N X Y S (more Z j x46) n (some ⟨b, 0, none⟩) by rw [hF]; exact (HO.out.grown hk.1 (by omega)).putZ hjn)
   have HCF := hide (show CoB wF w1.heap.size ax ay bx bY cx cy dx dy (some ⟨b, 0, none⟩) n cap by rw [hF]; exact (HC.out.grown hk.1 (by omega) (by omega)).far (by omega))
   have HRF := hide (show Mine wF w.heap.size 9 by rw [hF]; exact Mine.set (mine_grow HR.out hk.1 (by omega) (by omega)))
   have zF : wF.heap.size = W.heap.size := by rw [hF]; simp [World.setCell]
   rw [← hF] at hgE hsE ⊢
   have HSF := hide hsE
   have HGF := hide hgE
   have zF0 : w.heap.size < wF.heap.size := by omega
   have zF1 : w1.heap.size < wF.heap.size := by omega
   clear hF hcW hfW hk hgE hsE HC HR HO HG HS
   obtain ⟨c0, c1, c2, c3, c4, c5, c6, c7, c8, f0, f1, f2, f3, f4, f5, f6, f7, f8⟩ := HCF.out
   obtain ⟨v0, cy0, fy0⟩ := HRF.out.cells 0 (by decide)
   obtain ⟨v1, cy1, fy1⟩ := HRF.out.cells 1 (by decide)
   obtain ⟨v2, cy2, fy2⟩ := HRF.out.cells 2 (by decide)
   obtain ⟨v3, cy3, fy3⟩ := HRF.out.cells 3 (by decide)
   obtain ⟨v4, cy4, fy4⟩ := HRF.out.cells 4 (by decide)
   obtain ⟨v5, cy5, fy5⟩ := HRF.out.cells 5 (by decide)
   obtain ⟨v6, cy6, fy6⟩ := HRF.out.cells 6 (by decide)
   obtain ⟨v7, cy7, fy7⟩ := HRF.out.cells 7 (by decide)
   obtain ⟨v8, cy8, fy8⟩ := HRF.out.cells 8 (by decide)
   have HA9 := HA.out
   have hsF := HSF.out
   have hgF := HGF.out
   go_wp2
   simp [bodyPost, results, Tryz.results75, go_sem, *]
   exact ⟨⟨_, _, _, _, _, _, _, _, some ⟨b, 0, none⟩, n, _, N, X, Y, S, (more Z j x46), rfl, by omega, by omega, by omega, HA9, by refine OwnM.mono (B := w.heap.size + 1) ?_ (by omega); (repeat (first | with_reducible refine OwnM.far ?_ (by omega) | with_reducible refine OwnM.off ?_ (by omega))); exact HOF.out⟩, gwz, swz⟩
 have c2x : (x3 == 2) = false := beq_eq_false_iff_ne.2 k2
 by_cases k3 : x3 = 3
 ·subst k3
  have HCF := HC
  have HRF := HR
  have HOF := HO
  have HSF := HS
  have HGF := HG
  clear HC HR HO HS HG
  obtain ⟨c0, c1, c2, c3, c4, c5, c6, c7, c8, f0, f1, f2, f3, f4, f5, f6, f7, f8⟩ := HCF.out
  obtain ⟨v0, cy0, fy0⟩ := HRF.out.cells 0 (by decide)
  obtain ⟨v1, cy1, fy1⟩ := HRF.out.cells 1 (by decide)
  obtain ⟨v2, cy2, fy2⟩ := HRF.out.cells 2 (by decide)
  obtain ⟨v3, cy3, fy3⟩ := HRF.out.cells 3 (by decide)
  obtain ⟨v4, cy4, fy4⟩ := HRF.out.cells 4 (by decide)
  obtain ⟨v5, cy5, fy5⟩ := HRF.out.cells 5 (by decide)
  obtain ⟨v6, cy6, fy6⟩ := HRF.out.cells 6 (by decide)
  obtain ⟨v7, cy7, fy7⟩ := HRF.out.cells 7 (by decide)
  obtain ⟨v8, cy8, fy8⟩ := HRF.out.cells 8 (by decide)
  have HA9 := HA.out
  have hsF := HSF.out
  have hgF := HGF.out
  go_wp2
  simp [bodyPost, results, Tryz.results75, go_sem, *]
  exact ⟨⟨_, _, _, _, _, _, _, _, some ⟨b, 0, none⟩, n, _, N, X, Y, S, Z, rfl, by omega, by omega, by omega, HA9, by refine OwnM.mono (B := w.heap.size + 1) ?_ (by omega); (repeat (first | with_reducible refine OwnM.far ?_ (by omega) | with_reducible refine OwnM.off ?_ (by omega))); exact HOF.out⟩, gwz, swz⟩
 have c3x : (x3 == 3) = false := beq_eq_false_iff_ne.2 k3
 by_cases k4 : x3 = 4
 ·subst k4
  have HOF := hide (show OwnM w3 (w.heap.size + 1) N X Y S Z 0 none from .inl ⟨rfl, rfl⟩)
  have HCF := HC
  have HRF := HR
  have HSF := HS
  have HGF := HG
  clear HC HR HO HS HG
  obtain ⟨c0, c1, c2, c3, c4, c5, c6, c7, c8, f0, f1, f2, f3, f4, f5, f6, f7, f8⟩ := HCF.out
  obtain ⟨v0, cy0, fy0⟩ := HRF.out.cells 0 (by decide)
  obtain ⟨v1, cy1, fy1⟩ := HRF.out.cells 1 (by decide)
  obtain ⟨v2, cy2, fy2⟩ := HRF.out.cells 2 (by decide)
  obtain ⟨v3, cy3, fy3⟩ := HRF.out.cells 3 (by decide)
  obtain ⟨v4, cy4, fy4⟩ := HRF.out.cells 4 (by decide)
  obtain ⟨v5, cy5, fy5⟩ := HRF.out.cells 5 (by decide)
  obtain ⟨v6, cy6, fy6⟩ := HRF.out.cells 6 (by decide)
  obtain ⟨v7, cy7, fy7⟩ := HRF.out.cells 7 (by decide)
  obtain ⟨v8, cy8, fy8⟩ := HRF.out.cells 8 (by decide)
  have HA9 := HA.out
  have hsF := HSF.out
  have hgF := HGF.out
  go_wp2
  simp [bodyPost, results, Tryz.results75, go_sem, *]
  exact ⟨⟨_, _, _, _, _, _, _, _, none, 0, _, N, X, Y, S, Z, rfl, by omega, by omega, by omega, HA9, .inl ⟨rfl, rfl⟩⟩, gwz, swz⟩
 have c4x : (x3 == 4) = false := beq_eq_false_iff_ne.2 k4
 by_cases k5 : x3 = 5
 ·subst k5
  have m0 : w3.cell? ⟨b, j * 5 + 1, none⟩ = some (.int .i64 (X j)) := (HO.out.cell hjn (show 1 < 5 by decide)).1
  have mf0 : w3.frozen? ⟨b, j * 5 + 1, none⟩ = false := (HO.out.cell hjn (show 1 < 5 by decide)).2
  have m1 : w3.cell? ⟨b, j * 5 + 2, none⟩ = some (.int .i64 (Y j)) := (HO.out.cell hjn (show 2 < 5 by decide)).1
  have mf1 : w3.frozen? ⟨b, j * 5 + 2, none⟩ = false := (HO.out.cell hjn (show 2 < 5 by decide)).2
  have c8 := HC.out.2.2.2.2.2.2.2.2.1
  obtain ⟨g0, g1, g2, g3, _⟩ := HC.out
  have KM := hide (fun W => spec_l04Middle ax ay bx bY HA.out W)
  go_upto_region 15 with fail
  have HwE : World.grownBy w w3 (some g) := gwz
  have HcE0 : World.cell? w3 ⟨w1.heap.size, 0, none⟩ = some (.int .i64 ax) := (by go_simp)
  have HcE1 : World.cell? w3 ⟨w1.heap.size, 1, none⟩ = some (.int .i64 ay) := (by go_simp)
  have HcE2 : World.cell? w3 ⟨w1.heap.size, 2, none⟩ = some (.int .i64 bx) := (by go_simp)
  have HcE3 : World.cell? w3 ⟨w1.heap.size, 3, none⟩ = some (.int .i64 bY) := (by go_simp)
  have HcE4 : World.cell? w3 ⟨w1.heap.size, 8, none⟩ = some (.slice (some ⟨b, 0, none⟩) n cap) := (by go_simp)
  refine wp_region_held_drew (S := fun W => W.cell? ⟨w1.heap.size, 0, none⟩ = some (.int .i64 ax) ∧ W.cell? ⟨w1.heap.size, 1, none⟩ = some (.int .i64 ay) ∧ W.cell? ⟨w1.heap.size, 2, none⟩ = some (.int .i64 bx) ∧ W.cell? ⟨w1.heap.size, 3, none⟩ = some (.int .i64 bY) ∧ W.cell? ⟨w1.heap.size, 8, none⟩ = some (.slice (some ⟨b, 0, none⟩) n cap) ∧ World.grownBy w W (some g) ∧ Src W g) (by kernel_rfl) ⟨HcE0, HcE1, HcE2, HcE3, HcE4, gr_drew HwE, by assumption⟩ (fun hHeld => ?_)
  refine tkD 0 (some 61) rfl ?_; simp only [pz]
  refine tkD 1 (some 62) rfl ?_; simp only [pz]
  refine tkD 2 (some 63) rfl ?_; simp only [pz]
  refine tkD 3 (some 64) rfl ?_; simp only [pz]
  refine tkD 4 (some 65) rfl ?_; simp only [pz]
  refine wpAnyH_inv2 (fuel := 1) [5, 7] [6] [66, 67, 68] (fun u L W => (World.grownBy w3 W (some g) ∧ Src W g) ∧ (L 5 → FAgg2 (u 66)) ∧ (L 6 → (u 67) = (.pointer (some ⟨b, j * 5, none⟩))) ∧ (L 7 → (u 68) = (.pointer (some ⟨b, j * 5 + 1, none⟩))) ∧ True) (by decide) (by kernel_rfl) (by kernel_rfl) (fun _ _ _ _ _ h => h) (fun u L W hJ => ⟨cell_grown hJ.1.1 (by omega) HcE0, cell_grown hJ.1.1 (by omega) HcE1, cell_grown hJ.1.1 (by omega) HcE2, cell_grown hJ.1.1 (by omega) HcE3, cell_grown hJ.1.1 (by omega) HcE4, HwE.trans hJ.1.1, hJ.1.2⟩) (fun u L hL => ⟨⟨gr_drew (World.grownBy.refl _ _), by assumption⟩, fun k => absurd k (hL 5 (by decide)), fun k => absurd k (hL 6 (by decide)), fun k => absurd k (hL 7 (by decide)), trivial⟩) ?_ ?_ ?_
  ·refine sc1 66 ?_ ?_
   rotate_left
   refine sc1 68 ?_ ?_
   rotate_left
   exact StepsH.nil
   ·intro u L W hn hd hJ
    obtain ⟨hk, f66, f67, f68, _⟩ := hJ
    have hnd := hk.2
    intro K hK
    simp only [puts, pz]
    go_simp; (go_at_call 107; (with_reducible refine (KM.out _).mono ?_); rintro e w9 ⟨rfl, hb⟩; have hg := gr_belowB (World.grownBy.refl _ (some g)) hb; have hs := Src.keep hb hnd)
    all_goals (try go_wp2_with fail)
    all_goals
     apply Shut.go3 (W := W) (g := g) hK
     ·simp only [puts, pz]; rfl
     ·exact gbz
     ·exact sbz
     ·intro hg hs; exact ⟨Dr.step hk hg hs, fun _ => by rw [upd_same]; exact ⟨_, _, rfl⟩, unz f67, unz f68, trivial⟩
   ·intro u L W hn hd hJ
    obtain ⟨hk, f66, f67, f68, _⟩ := hJ
    have hnd := hk.2
    obtain e67 := f67 (hd 6 (by kernel_rfl))
    intro K hK
    simp only [puts, pz, e67]
    go_simp
    all_goals (try go_wp2_with fail)
    all_goals
     apply Shut.go3 (W := W) (g := g) hK
     ·simp only [puts, pz, e67]; rfl
     ·exact gbz
     ·exact sbz
     ·intro hg hs; exact ⟨Dr.step hk hg hs, unz f66, unz f67, fun _ => upd_same _ _ _, trivial⟩
  ·refine PuresH.cons (d := 67) (o := ⟨some 67, _, _, _, _, _⟩) rfl rfl (by kernel_rfl) (by kernel_rfl) ?_ ?_
   rotate_left
   exact PuresH.nil
   ·intro u L W hn hd hJ
    obtain ⟨hk, f66, f67, f68, _⟩ := hJ
    have hnd := hk.2
    simp only [puts, pz]
    refine ⟨?_, Or.inl ⟨by kernel_rfl, ?_⟩, ?_⟩; rotate_left; focus (intro W0 hSw; (try dsimp only at hSw); go_simp; (try with_reducible rfl))
    exact ⟨hk, unz f66, fun _ => upd_same _ _ _, unz f68, trivial⟩
  ·intro u L W hJ hL
   obtain ⟨hk, f66, f67, f68, _⟩ := hJ
   obtain ⟨x66_0, x66_1, e66⟩ := f66 (hL 5 (by kernel_rfl))
   obtain e67 := f67 (hL 6 (by kernel_rfl))
   obtain e68 := f68 (hL 7 (by kernel_rfl))
   clear hHeld; have hcW := gcell hk.1; have hfW := gfroz hk.1; have hHeld := And.intro (HwE.trans hk.1) hk.2; have lW := hk.1.size
   clear f66
   clear f67
   clear f68
   simp only [puts, pz, Array.replicate, e66, e67, e68]
   refine rd1 8 none rfl (fun K hK => ?_)
   go_simp
   all_goals (try go_wp2_with fail)
   refine hK.out _ _ ?_ (fun hH2 => ?_)
   ·have hHg := hHeld.1; have hHs := hHeld.2; exact ⟨(by go_simp; done), (by go_simp; done), (by go_simp; done), (by go_simp; done), (by go_simp; done), gwz, swz⟩
   clear hK K hHeld; (have hHeld := hH2.2.2.2.2.2); clear hH2; (try simp only [Act.put])
   refine wpAnyH_done (by kernel_rfl) ?_ _; (try simp only [pz])
   obtain ⟨hgE, hsE⟩ := hHeld
   obtain ⟨wF, hF⟩ : ∃ x, x = (W.setCell ⟨b, j * 5 + 1, none⟩ (.int .i64 x66_0)).setCell ⟨b, j * 5 + 2, none⟩ (.int .i64 x66_1) := ⟨_, rfl⟩
   have zW := hk.1.size
   have HOF := hide (show OwnM wF (w.heap.size + 1) N (more X j x66_0) (more Y j x66_1) S Z n (some ⟨b, 0, none⟩) by rw [hF]; exact ((HO.out.grown hk.1 (by omega)).putX hjn).putY hjn)
   have HCF := hide (show CoB wF w1.heap.size ax ay bx bY cx cy dx dy (some ⟨b, 0, none⟩) n cap by rw [hF]; exact ((HC.out.grown hk.1 (by omega) (by omega)).far (by omega)).far (by omega))
   have HRF := hide (show Mine wF w.heap.size 9 by rw [hF]; exact Mine.set (Mine.set (mine_grow HR.out hk.1 (by omega) (by omega))))
   have zF : wF.heap.size = W.heap.size := by rw [hF]; simp [World.setCell]
   rw [← hF] at hgE hsE ⊢
   have HSF := hide hsE
   have HGF := hide hgE
   have zF0 : w.heap.size < wF.heap.size := by omega
   have zF1 : w1.heap.size < wF.heap.size := by omega
   clear hF hcW hfW hk hgE hsE HC HR HO HG HS
   obtain ⟨c0, c1, c2, c3, c4, c5, c6, c7, c8, f0, f1, f2, f3, f4, f5, f6, f7, f8⟩ := HCF.out
   obtain ⟨v0, cy0, fy0⟩ := HRF.out.cells 0 (by decide)
   obtain ⟨v1, cy1, fy1⟩ := HRF.out.cells 1 (by decide)
   obtain ⟨v2, cy2, fy2⟩ := HRF.out.cells 2 (by decide)
   obtain ⟨v3, cy3, fy3⟩ := HRF.out.cells 3 (by decide)
   obtain ⟨v4, cy4, fy4⟩ := HRF.out.cells 4 (by decide)
   obtain ⟨v5, cy5, fy5⟩ := HRF.out.cells 5 (by decide)
   obtain ⟨v6, cy6, fy6⟩ := HRF.out.cells 6 (by decide)
   obtain ⟨v7, cy7, fy7⟩ := HRF.out.cells 7 (by decide)
   obtain ⟨v8, cy8, fy8⟩ := HRF.out.cells 8 (by decide)
   have HA9 := HA.out
   have hsF := HSF.out
   have hgF := HGF.out
   go_wp2
   simp [bodyPost, results, Tryz.results75, go_sem, *]
   exact ⟨⟨_, _, _, _, _, _, _, _, some ⟨b, 0, none⟩, n, _, N, (more X j x66_0), (more Y j x66_1), S, Z, rfl, by omega, by omega, by omega, HA9, by refine OwnM.mono (B := w.heap.size + 1) ?_ (by omega); (repeat (first | with_reducible refine OwnM.far ?_ (by omega) | with_reducible refine OwnM.off ?_ (by omega))); exact HOF.out⟩, gwz, swz⟩
 have c5x : (x3 == 5) = false := beq_eq_false_iff_ne.2 k5
 by_cases k6 : x3 = 6
 ·subst k6
  have hw8 : ∀ z : Nat, z < 2 → IntKind.i64.wrap (8 + (z : Int)) = 8 + (z : Int) := fun z hz => IntWalk.i64_in _ (by omega)
  go_wp2
  go_loopg [] (9 - n) (fun gk wr => ∃ (b' n' cap' : Nat) (N : Nat → ByteArray) (X Y S Z : Nat → Int), n' + gk = 9 ∧ 1 ≤ n' ∧ n' ≤ 9 ∧ n' ≤ cap' ∧ Hid (OwnM wr (w.heap.size + 1) N X Y S Z n' (some ⟨b', 0, none⟩)) ∧ Hid (CoB wr w1.heap.size ax ay bx bY cx cy dx dy (some ⟨b', 0, none⟩) n' cap') ∧ Hid (Mine wr w.heap.size 9) ∧ Hid (Src wr g) ∧ Hid (w.grownBy wr (some g)) ∧ b' ≠ w1.heap.size ∧ w3.heap.size ≤ wr.heap.size)
  case atStart => exact ⟨b, n, cap, N, X, Y, S, Z, by omega, by omega, by omega, by omega, HO, HC, HR, HS, HG, by omega, Nat.le_refl _⟩
  case round =>
   clear HO HC HR HS HG hgA
   obtain ⟨b', n', cap', N, X, Y, S, Z, hnk, hn2, hn9, hnc, HO, HC, HR, HS, HG, nbb, hsz⟩ := hrel
   have lgr := Src.lt HS.out
   have hsr := HS.out
   have hgr := HG.out
   have zr0 : w.heap.size < wr.heap.size := by omega
   have zr1 : w1.heap.size < wr.heap.size := by omega
   have c8 := HC.out.2.2.2.2.2.2.2.2.1
   go_upto_region 17 with fail
   have HwE : World.grownBy w wr (some g) := gwz
   have HcE0 : World.cell? wr ⟨w1.heap.size, 8, none⟩ = some (.slice (some ⟨b', 0, none⟩) n' cap') := (by go_simp)
   refine wp_region_held_drew (S := fun W => W.cell? ⟨w1.heap.size, 8, none⟩ = some (.slice (some ⟨b', 0, none⟩) n' cap') ∧ World.grownBy w W (some g) ∧ Src W g) (by kernel_rfl) ⟨HcE0, gr_drew HwE, by assumption⟩ (fun hHeld => ?_)
   refine tkD 0 (some 71) rfl ?_; simp only [pz]
   refine tkD 1 (some 72) rfl ?_; simp only [pz]
   refine tkD 2 (some 73) rfl ?_; simp only [pz]
   refine tkD 3 (some 74) rfl ?_; simp only [pz]
   refine wpAnyH_inv (fuel := 0) [4, 5, 6] [75, 76, 77] (fun u L W => (World.grownBy wr W (some g) ∧ Src W g) ∧ (L 4 → FNat 2 (u 75)) ∧ (L 5 → FI9 (u 76)) ∧ (L 6 → FLt8 n' (u 77)) ∧ True) (by decide) (by kernel_rfl) (fun u L W hJ => ⟨cell_grown hJ.1.1 (by omega) HcE0, HwE.trans hJ.1.1, hJ.1.2⟩) (fun u L hL => ⟨⟨gr_drew (World.grownBy.refl _ _), by assumption⟩, fun k => absurd k (hL 4 (by decide)), fun k => absurd k (hL 5 (by decide)), fun k => absurd k (hL 6 (by decide)), trivial⟩) ?_ ?_
   ·refine sc1 75 ?_ ?_
    rotate_left
    refine sc1 76 ?_ ?_
    rotate_left
    refine sc1 77 ?_ ?_
    rotate_left
    exact StepsH.nil
    ·intro u L W hn hd hJ
     obtain ⟨hk, f75, f76, f77, _⟩ := hJ
     have hnd := hk.2
     intro K hK
     simp only [puts, pz]
     go_simp; (go_at_call 59; (with_reducible refine (spec_l01NextN g 2 2 _ hnd (by decide) (by decide) (by decide)).mono ?_); rintro e w9 ⟨⟨xx, rfl, hxx⟩, hg, hs⟩)
     all_goals (try go_wp2_with fail)
     all_goals
      apply Shut.go3 (W := W) (g := g) hK
      ·simp only [puts, pz]; rfl
      ·exact gbz
      ·exact sbz
      ·intro hg hs; exact ⟨Dr.step hk hg hs, fun _ => by rw [upd_same]; exact ⟨_, rfl, by first | assumption | omega⟩, unz f76, unz f77, trivial⟩
    ·intro u L W hn hd hJ
     obtain ⟨hk, f75, f76, f77, _⟩ := hJ
     have hnd := hk.2
     obtain ⟨x75, e75, l75⟩ := f75 (hd 4 (by kernel_rfl))
     have il75 : (0 : Int) ≤ (x75 : Int) := (by omega); have iu75 : (x75 : Int) < (2 : Int) := (by omega)
     intro K hK
     simp only [puts, pz, e75]
     go_simp
     all_goals (try go_wp2_with fail)
     all_goals
      apply Shut.go3 (W := W) (g := g) hK
      ·simp only [puts, pz, e75]; rfl
      ·exact gbz
      ·exact sbz
      ·intro hg hs; exact ⟨Dr.step hk hg hs, unz f75, fun _ => by rw [upd_same]; exact ⟨_, rfl, by omega⟩, unz f77, trivial⟩
    ·intro u L W hn hd hJ
     obtain ⟨hk, f75, f76, f77, _⟩ := hJ
     have hnd := hk.2
     obtain ⟨x76, e76, hx76⟩ := f76 (hd 5 (by kernel_rfl))
     intro K hK
     simp only [puts, pz, e76]
     go_simp
     all_goals (try go_wp2_with fail)
     all_goals
      apply Shut.go3 (W := W) (g := g) hK
      ·simp only [puts, pz, e76]; rfl
      ·exact gbz
      ·exact sbz
      ·intro hg hs; exact ⟨Dr.step hk hg hs, unz f75, unz f76, fun _ => by rw [upd_same]; exact ⟨_, rfl, by exact fun h => Nat.le_of_lt_succ (Int.ofNat_lt.1 (Int.lt_of_lt_of_le (of_decide_eq_true h) hx76))⟩, trivial⟩
   ·intro u L W hJ hL
    obtain ⟨hk, f75, f76, f77, _⟩ := hJ
    obtain ⟨x75, e75, l75⟩ := f75 (hL 4 (by kernel_rfl))
    obtain ⟨x76, e76, hx76⟩ := f76 (hL 5 (by kernel_rfl))
    obtain ⟨x77, e77, hx77⟩ := f77 (hL 6 (by kernel_rfl))
    clear hHeld; have hcW := gcell hk.1; have hfW := gfroz hk.1; have hHeld := And.intro (HwE.trans hk.1) hk.2; have lW := hk.1.size
    clear f75
    clear f76
    clear f77
    simp only [puts, pz, setAll, Array.replicate, e75, e76, e77]
    refine wpAnyH_done (by kernel_rfl) ?_ _; (try simp only [pz])
    obtain ⟨hgE, hsE⟩ := hHeld
    have z6 := hk.1.size
    have zW0 : w.heap.size < W.heap.size := by omega
    have zW1 : w1.heap.size < W.heap.size := by omega
    have HOE := hide (HO.out.grown hk.1 (by omega))
    have HCE := hide (HC.out.grown hk.1 (by omega) (by omega))
    have HRE := hide (mine_grow HR.out hk.1 (by omega) (by omega))
    obtain ⟨wE, rfl⟩ : ∃ x : World, x = W := ⟨_, rfl⟩
    clear hcW hfW hk HO HC HR HS HG hsr hgr c8
    cases x77
    ·have HOF := HOE
     have HCF := HCE
     have HRF := HRE
     have HSF := hide hsE
     have HGF := hide hgE
     clear HOE HCE HRE hsE hgE
     obtain ⟨c0, c1, c2, c3, c4, c5, c6, c7, c8, f0, f1, f2, f3, f4, f5, f6, f7, f8⟩ := HCF.out
     obtain ⟨v0, cy0, fy0⟩ := HRF.out.cells 0 (by decide)
     obtain ⟨v1, cy1, fy1⟩ := HRF.out.cells 1 (by decide)
     obtain ⟨v2, cy2, fy2⟩ := HRF.out.cells 2 (by decide)
     obtain ⟨v3, cy3, fy3⟩ := HRF.out.cells 3 (by decide)
     obtain ⟨v4, cy4, fy4⟩ := HRF.out.cells 4 (by decide)
     obtain ⟨v5, cy5, fy5⟩ := HRF.out.cells 5 (by decide)
     obtain ⟨v6, cy6, fy6⟩ := HRF.out.cells 6 (by decide)
     obtain ⟨v7, cy7, fy7⟩ := HRF.out.cells 7 (by decide)
     obtain ⟨v8, cy8, fy8⟩ := HRF.out.cells 8 (by decide)
     have HA9 := HA.out
     have hsF := HSF.out
     have hgF := HGF.out
     go_wp2
     simp [bodyPost, results, Tryz.results75, go_sem, *]
     exact ⟨⟨_, _, _, _, _, _, _, _, some ⟨b', 0, none⟩, n', _, N, X, Y, S, Z, rfl, by omega, by omega, by omega, HA9, by refine OwnM.mono (B := w.heap.size + 1) ?_ (by omega); (repeat (first | with_reducible refine OwnM.far ?_ (by omega) | with_reducible refine OwnM.off ?_ (by omega))); exact HOF.out⟩, gwz, swz⟩
    ·have hn8 := hx77 rfl
     have HGE := hide hgE
     have hgg := Src.lt hsE
     have c8 := HCE.out.2.2.2.2.2.2.2.2.1
     have wk : IntKind.i64.wrap (999000 + (n' : Int)) = 999000 + (n' : Int) := IntWalk.i64_in _ (by omega)
     go_upto_region 18 with fail
     have HwE : World.grownBy w wE (some g) := gwz
     have HcE0 : World.cell? wE ⟨w1.heap.size, 8, none⟩ = some (.slice (some ⟨b', 0, none⟩) n' cap') := (by go_simp)
     refine wp_region_held_drew (S := fun W => W.cell? ⟨w1.heap.size, 8, none⟩ = some (.slice (some ⟨b', 0, none⟩) n' cap') ∧ World.grownBy w W (some g) ∧ Src W g) (by kernel_rfl) ⟨HcE0, gr_drew HwE, by assumption⟩ (fun hHeld => ?_)
     refine tkD 0 (some 78) rfl ?_; simp only [pz]
     refine tkD 1 (some 79) rfl ?_; simp only [pz]
     refine tkD 2 (some 80) rfl ?_; simp only [pz]
     refine tkD 5 (some 83) rfl ?_; simp only [pz]
     refine tkD 6 (some 84) rfl ?_; simp only [pz]
     refine tkD 7 (some 85) rfl ?_; simp only [pz]
     refine tkD 8 (some 86) rfl ?_; simp only [pz]
     refine tkD 9 (some 87) rfl ?_; simp only [pz]
     refine wpAnyH_inv (fuel := 1) [3, 4, 10, 11] [81, 82, 88, 5] (fun u L W => (World.grownBy wE W (some g) ∧ Src W g) ∧ (L 3 → FStr1 (u 81) W) ∧ (L 4 → FStr (u 82)) ∧ (L 10 → FMark (u 88)) ∧ (L 11 → FBox g wE 5 (u 5) W) ∧ True) (by decide) (by kernel_rfl) (fun u L W hJ => ⟨cell_grown hJ.1.1 (by omega) HcE0, HwE.trans hJ.1.1, hJ.1.2⟩) (fun u L hL => ⟨⟨gr_drew (World.grownBy.refl _ _), by assumption⟩, fun k => absurd k (hL 3 (by decide)), fun k => absurd k (hL 4 (by decide)), fun k => absurd k (hL 10 (by decide)), fun k => absurd k (hL 11 (by decide)), trivial⟩) ?_ ?_
     ·refine sc1 81 ?_ ?_
      rotate_left
      refine sc1 82 ?_ ?_
      rotate_left
      refine sc1 88 ?_ ?_
      rotate_left
      refine sc1 5 ?_ ?_
      rotate_left
      exact StepsH.nil
      ·intro u L W hn hd hJ
       obtain ⟨hk, f81, f82, f88, f5, _⟩ := hJ
       have hnd := hk.2
       intro K hK
       simp only [puts, pz]
       go_simp; (go_at_call 123; (with_reducible refine (spec_l01Number_d n' _ (by omega)).mono ?_); rintro e w9 ⟨⟨s1, rfl, hs1⟩, hb⟩; have hg := gr_belowB (World.grownBy.refl _ (some g)) hb; have hs := Src.keep hb hnd)
       all_goals (try go_wp2_with fail)
       all_goals
        apply Shut.go3 (W := W) (g := g) hK
        ·simp only [puts, pz]; rfl
        ·exact gbz
        ·exact sbz
        ·intro hg hs; exact ⟨Dr.step hk hg hs, fun _ => by rw [upd_same]; exact ⟨_, rfl, hs1⟩, unz f82, unz f88, unz fun h => FBox.later hg (f5 h), trivial⟩
      ·intro u L W hn hd hJ
       obtain ⟨hk, f81, f82, f88, f5, _⟩ := hJ
       have hnd := hk.2
       obtain ⟨x81, e81, hs81⟩ := f81 (hd 3 (by kernel_rfl))
       have hadd := fun W : World => add_one1 (P := Tryz.prog) hs81 W
       intro K hK
       simp only [puts, pz, e81]
       go_simp
       all_goals (try go_wp2_with fail)
       all_goals
        apply Shut.go3 (W := W) (g := g) hK
        ·simp only [puts, pz, e81]; rfl
        ·exact gbz
        ·exact sbz
        ·intro hg hs; exact ⟨Dr.step hk hg hs, unz fun h => FStr1.later hg (f81 h), fun _ => by rw [upd_same]; exact ⟨_, rfl⟩, unz f88, unz fun h => FBox.later hg (f5 h), trivial⟩
      ·intro u L W hn hd hJ
       obtain ⟨hk, f81, f82, f88, f5, _⟩ := hJ
       have hnd := hk.2
       obtain ⟨x82, e82⟩ := f82 (hd 4 (by kernel_rfl))
       intro K hK
       simp only [puts, pz, e82]
       go_simp
       all_goals (try go_wp2_with fail)
       all_goals
        apply Shut.go3 (W := W) (g := g) hK
        ·simp only [puts, pz, e82]; rfl
        ·exact gbz
        ·exact sbz
        ·intro hg hs; exact ⟨Dr.step hk hg hs, unz fun h => FStr1.later hg (f81 h), unz f82, fun _ => by rw [upd_same]; exact ⟨_, _, _, _, _, rfl⟩, unz fun h => FBox.later hg (f5 h), trivial⟩
      ·intro u L W hn hd hJ
       obtain ⟨hk, f81, f82, f88, f5, _⟩ := hJ
       have hnd := hk.2
       intro K hK
       simp only [puts, pz]
       go_simp
       all_goals (try go_wp2_with fail)
       all_goals
        apply Shut.go3 (W := W) (g := g) hK
        ·simp only [puts, pz]; rfl
        ·exact gbz
        ·exact sbz
        ·intro hg hs; exact ⟨Dr.step hk hg hs, unz fun h => FStr1.later hg (f81 h), unz f82, unz f88, fun _ => by rw [upd_same]; exact FBox.new (Src.lt hnd) (World.grownBy.size hk.1) _ _ (by rfl), trivial⟩
     ·intro u L W hJ hL
      obtain ⟨hk, f81, f82, f88, f5, _⟩ := hJ
      obtain ⟨x81, e81, hs81⟩ := f81 (hL 3 (by kernel_rfl))
      obtain ⟨x82, e82⟩ := f82 (hL 4 (by kernel_rfl))
      obtain ⟨x88_0, x88_1, x88_2, x88_3, x88_4, e88⟩ := f88 (hL 10 (by kernel_rfl))
      obtain ⟨b5, e5, gb5, bb5, lb5, cb5⟩ := f5 (hL 11 (by kernel_rfl))
      clear hHeld; have hcW := gcell hk.1; have hfW := gfroz hk.1; have hHeld := And.intro (HwE.trans hk.1) hk.2; have lW := hk.1.size
      clear f81
      clear f82
      clear f88
      clear f5
      simp only [puts, pz, setAll, Array.replicate, e81, e82, e88, e5]
      obtain ⟨⟨y5_0, cy5_0⟩, fy5_0⟩ := cb5 0 (by decide)
      obtain ⟨⟨y5_1, cy5_1⟩, fy5_1⟩ := cb5 1 (by decide)
      obtain ⟨⟨y5_2, cy5_2⟩, fy5_2⟩ := cb5 2 (by decide)
      obtain ⟨⟨y5_3, cy5_3⟩, fy5_3⟩ := cb5 3 (by decide)
      obtain ⟨⟨y5_4, cy5_4⟩, fy5_4⟩ := cb5 4 (by decide)
      refine rd1 12 none rfl (fun K hK => ?_)
      go_simp
      all_goals (try go_wp2_with fail)
      refine hK.out _ _ ?_ (fun hH2 => ?_)
      ·have hHg := hHeld.1; have hHs := hHeld.2; exact ⟨(by go_simp; done), gwz, swz⟩
      clear hK K hHeld; (have hHeld := hH2.2); clear hH2; (try simp only [Act.put])
      refine wpAnyH_done (by kernel_rfl) ?_ _; (try simp only [pz])
      obtain ⟨hgE, hsE⟩ := hHeld
      have zWr := hk.1.size
      obtain ⟨wB, hwB⟩ : ∃ x, x = ((((W.setCell ⟨b5, 0, none⟩ (.string x88_0)).setCell ⟨b5, 1, none⟩ (.int .i64 x88_1)).setCell ⟨b5, 2, none⟩ (.int .i64 x88_2)).setCell ⟨b5, 3, none⟩ (.int .i64 x88_3)).setCell ⟨b5, 4, none⟩ (.int .i64 x88_4) := ⟨_, rfl⟩
      rw [← hwB] at hgE hsE ⊢
      have zB : wB.heap.size = W.heap.size := (by rw [hwB]; simp [World.setCell])
      have hk1 := hk.1
      have hrB : wE.grownBy wB (some g) := (by rw [hwB]; exact gwz)
      have m0 : wB.cell? ⟨b5, 0, none⟩ = some (.string x88_0) := (by rw [hwB]; go_simp)
      have m1 : wB.cell? ⟨b5, 1, none⟩ = some (.int .i64 x88_1) := (by rw [hwB]; go_simp)
      have m2 : wB.cell? ⟨b5, 2, none⟩ = some (.int .i64 x88_2) := (by rw [hwB]; go_simp)
      have m3 : wB.cell? ⟨b5, 3, none⟩ = some (.int .i64 x88_3) := (by rw [hwB]; go_simp)
      have m4 : wB.cell? ⟨b5, 4, none⟩ = some (.int .i64 x88_4) := (by rw [hwB]; go_simp)
      have HOB := hide (HOE.out.grown hrB (by omega))
      have HCB := hide (HCE.out.grown hrB (by omega) (by omega))
      have HRB := hide (mine_grow HRE.out hrB (by omega) (by omega))
      have HGB := hide hgE
      have HSB := hide hsE
      have g8 := HCB.out.2.2.2.2.2.2.2.2.1
      have zb5 : b5 < wB.heap.size := (by omega)
      have zb0 : w.heap.size < wB.heap.size := (by omega)
      have zb1 : w1.heap.size < wB.heap.size := (by omega)
      have zb3 : wE.heap.size ≤ wB.heap.size := (by omega)
      clear hwB zB hk1 hrB hgE hsE HOE HCE HRE HGE hcW hfW hk c8 cb5 cy5_0 fy5_0 cy5_1 fy5_1 cy5_2 fy5_2 cy5_3 fy5_3 cy5_4 fy5_4
      have HOwn := HOB
      clear HOB
      go_upto_region 19 with fail
      refine wp_region_held_drew (S := fun W => W.cell? ⟨b5, 0, none⟩ = some (.string x88_0) ∧ W.cell? ⟨b5, 1, none⟩ = some (.int .i64 x88_1) ∧ W.cell? ⟨b5, 2, none⟩ = some (.int .i64 x88_2) ∧ W.cell? ⟨b5, 3, none⟩ = some (.int .i64 x88_3) ∧ W.cell? ⟨b5, 4, none⟩ = some (.int .i64 x88_4) ∧ Below w.heap.size wB W) (by kernel_rfl) ⟨m0, m1, m2, m3, m4, Below.drew (Below.refl _ _)⟩ (fun hHeld => ?_)
      refine tkD 1 (some 90) rfl ?_; simp only [pz]
      refine tkD 4 (some 93) rfl ?_; simp only [pz]
      refine wpAnyH_inv2 (fuel := 1) [0, 2, 3, 5, 6, 7] [] [89, 91, 92, 94, 95, 96] (fun u L W => Below wB.heap.size wB W ∧ (L 0 → ¬ L 3 → FE5 wB.heap.size 45 (u 89) W) ∧ (L 3 → ¬ L 6 → FA5 wB.heap.size 45 n' N X Y S Z (u 92) W) ∧ (L 5 → ¬ L 6 → FX5 x88_0 x88_1 x88_2 x88_3 x88_4 (u 94) W) ∧ (L 0 → L 5 → ¬ L 3 → ∀ q, (u 89).ownBlock = some q → (u 94).ownBlock ≠ some q) ∧ (L 6 → FM5 wB.heap.size (n' + 1) (more N n' x88_0) (more X n' x88_1) (more Y n' x88_2) (more S n' x88_3) (more Z n' x88_4) (u 95) W) ∧ (L 6 → L 3) ∧ (L 2 → (u 91) = .slice (some ⟨b', 0, none⟩) n' cap') ∧ (L 7 → u 96 = .pointer (some ⟨w1.heap.size, 8, none⟩)) ∧ (L 7 → L 6)) (by decide) (by kernel_rfl) (by kernel_rfl) (fun _ _ _ _ _ h => h) (fun u L W hJ => ⟨cell_later hJ.1 m0, cell_later hJ.1 m1, cell_later hJ.1 m2, cell_later hJ.1 m3, cell_later hJ.1 m4, hJ.1.mono (by omega)⟩) (fun u L hL => ⟨Below.drew (Below.refl _ _), fun k => absurd k (hL 0 (by decide)), fun k => absurd k (hL 3 (by decide)), fun k => absurd k (hL 5 (by decide)), fun k => absurd k (hL 0 (by decide)), fun k => absurd k (hL 6 (by decide)), fun k => absurd k (hL 6 (by decide)), fun k => absurd k (hL 2 (by decide)), fun k => absurd k (hL 7 (by decide)), fun k => absurd k (hL 7 (by decide))⟩) ?_ ?_ ?_
      ·refine sc1 89 ?_ ?_
       rotate_left
       refine sc1 91 ?_ ?_
       rotate_left
       refine sc1 92 ?_ ?_
       rotate_left
       refine sc1 94 ?_ ?_
       rotate_left
       refine sc1 95 ?_ ?_
       rotate_left
       refine sc1 96 ?_ ?_
       rotate_left
       exact StepsH.nil
       ·intro u L W hn hd hJ
        obtain ⟨fk, fE, fA, fX, fEX, fZ, fZA, fS, fP, fPZ⟩ := hJ
        have hzk := fk.size
        intro K hK
        simp only [puts, pz]
        go_simp
        apply Shut.go4 (W := W) hK
        ·simp only [puts, pz]; rfl
        ·exact Below.alloc (Below.refl _ _) (Nat.le_refl _) _
        ·intro hb
         exact ⟨bstep fk hb, fun _ _ => by rw [upd_same]; exact ⟨_, rfl, own_new5 W _ fk.size⟩, fun k kn => by rw [upd_ne u _ (by decide)]; exact (fA (k.resolve_left (by decide)) (fun h => kn (Or.inr h))).alloc _, fun k kn => by rw [upd_ne u _ (by decide)]; exact (fX (k.resolve_left (by decide)) (fun h => kn (Or.inr h))).later hb, fun _ k kn q hq => by rw [upd_same] at hq; rw [upd_ne u _ (by decide)]; obtain ⟨x9, ex, hx9, _⟩ := fX (k.resolve_left (by decide)) (fun h => kn (Or.inr (fZA h))); rw [ex]; simp only [Value.ownBlock, ne_eq, Option.some.injEq] at hq ⊢; omega, fun k => by rw [upd_ne u _ (by decide)]; exact (fZ (k.resolve_left (by decide))).later hb, fun k => Or.inr (fZA (k.resolve_left (by decide))), fun k => by rw [upd_ne u _ (by decide)]; exact fS (k.resolve_left (by decide)), fun k => by simp only [upd_ne u _ (show 96 ≠ 89 by decide)]; exact fP (k.resolve_left (by decide)), fun k => Or.inr (fPZ (k.resolve_left (by decide)))⟩
       ·intro u L W hn hd hJ
        obtain ⟨fk, fE, fA, fX, fEX, fZ, fZA, fS, fP, fPZ⟩ := hJ
        have hzk := fk.size
        have hcS := (bcell fk).1
        intro K hK
        simp only [puts, pz]
        go_simp
        apply Shut.go4 (W := W) hK
        ·simp only [puts, pz]; rfl
        ·exact Below.refl _ _
        ·intro hb
         exact ⟨fk, fun k kn => by rw [upd_ne u _ (by decide)]; exact fE (k.resolve_left (by decide)) (fun h => kn (Or.inr h)), fun k kn => by rw [upd_ne u _ (by decide)]; exact fA (k.resolve_left (by decide)) (fun h => kn (Or.inr h)), fun k kn => by rw [upd_ne u _ (by decide)]; exact fX (k.resolve_left (by decide)) (fun h => kn (Or.inr h)), fun k k2 kn q hq => by rw [upd_ne u _ (by decide)] at hq; rw [upd_ne u _ (by decide)]; exact fEX (k.resolve_left (by decide)) (k2.resolve_left (by decide)) (fun h => kn (Or.inr h)) q hq, fun k => by rw [upd_ne u _ (by decide)]; exact fZ (k.resolve_left (by decide)), fun k => Or.inr (fZA (k.resolve_left (by decide))), fun _ => upd_same _ _ _, fun k => by simp only [upd_ne u _ (show 96 ≠ 91 by decide)]; exact fP (k.resolve_left (by decide)), fun k => Or.inr (fPZ (k.resolve_left (by decide)))⟩
       ·intro u L W hn hd hJ
        obtain ⟨fk, fE, fA, fX, fEX, fZ, fZA, fS, fP, fPZ⟩ := hJ
        have hzk := fk.size
        obtain ⟨e0, eE, oE⟩ := fE (hd 0 (by kernel_rfl)) hn
        have eS := fS (hd 2 (by kernel_rfl))
        obtain ⟨g9, c9, W9, hr9, ho9, hb9, hg9, hw9⟩ := app_marks i0 Hi.out Hz.out W wB.heap.size _ e0 (some ⟨b', 0, none⟩) n' cap' N X Y S Z (by omega) (HOwn.out.later fk) oE hzk
        intro K hK
        refine step_append_run (by rfl) _ _ 28 (by rfl) (.slice (some ⟨e0, 0, none⟩) 0 0) (.slice (some ⟨b', 0, none⟩) n' cap') (by simp only [puts, pz, eE]; rfl) (by simp only [puts, pz, eS]; rfl) _ _ hr9 ?_
        exact hK.out _ _ ⟨fk.trans hb9, fun _ h => absurd (Or.inl rfl) h, fun _ _ => by rw [upd_same]; exact ⟨g9, c9, rfl, ho9⟩, fun k kn => by rw [upd_ne u _ (by decide)]; exact (fX (k.resolve_left (by decide)) (fun h => kn (Or.inr h))).grown hg9 (fEX (hd 0 (by kernel_rfl)) (k.resolve_left (by decide)) hn e0 (by rw [eE]; rfl)), fun _ _ h => absurd (Or.inl rfl) h, fun k => absurd (fZA (k.resolve_left (by decide))) hn, fun _ => Or.inl rfl, fun k => by rw [upd_ne u _ (by decide)]; exact fS (k.resolve_left (by decide)), fun k => absurd (fZA (fPZ (k.resolve_left (by decide)))) hn, fun k => Or.inr (fPZ (k.resolve_left (by decide)))⟩
       ·intro u L W hn hd hJ
        obtain ⟨fk, fE, fA, fX, fEX, fZ, fZA, fS, fP, fPZ⟩ := hJ
        have hzk := fk.size
        intro K hK
        simp only [puts, pz]
        go_simp
        apply Shut.go4 (W := W) hK
        ·simp only [puts, pz]; rfl
        ·exact Below.alloc (Below.refl _ _) (Nat.le_refl _) _
        ·intro hb
         exact ⟨bstep fk hb, fun k kn => by rw [upd_ne u _ (by decide)]; exact (fE (k.resolve_left (by decide)) (fun h => kn (Or.inr h))).alloc _, fun k kn => by rw [upd_ne u _ (by decide)]; exact (fA (k.resolve_left (by decide)) (fun h => kn (Or.inr h))).alloc _, fun _ _ => by rw [upd_same]; exact ⟨_, rfl, by simp, newM5⟩, fun k _ kn q hq => by rw [upd_same]; rw [upd_ne u _ (by decide)] at hq; obtain ⟨b9, e9, o9⟩ := fE (k.resolve_left (by decide)) (fun h => kn (Or.inr h)); rw [e9] at hq; have hl9 := (o9.lt q hq).2; simp only [Value.ownBlock, ne_eq, Option.some.injEq] at hq ⊢; omega, fun k => by rw [upd_ne u _ (by decide)]; exact (fZ (k.resolve_left (by decide))).later hb, fun k => Or.inr (fZA (k.resolve_left (by decide))), fun k => by rw [upd_ne u _ (by decide)]; exact fS (k.resolve_left (by decide)), fun k => by simp only [upd_ne u _ (show 96 ≠ 94 by decide)]; exact fP (k.resolve_left (by decide)), fun k => Or.inr (fPZ (k.resolve_left (by decide)))⟩
       ·intro u L W hn hd hJ
        obtain ⟨fk, fE, fA, fX, fEX, fZ, fZA, fS, fP, fPZ⟩ := hJ
        have hzk := fk.size
        obtain ⟨bA, cA, eA, oA⟩ := fA (hd 3 (by kernel_rfl)) hn
        obtain ⟨xX, eX, hxX, hcX⟩ := fX (hd 5 (by kernel_rfl)) hn
        obtain ⟨g9, c9, W9, hr9, hc9, hl9, ho9, hb9, hg9, hw9⟩ := app_mark i0 Hi.out Hz.out W wB.heap.size bA xX n' cA N X Y S Z x88_0 x88_1 x88_2 x88_3 x88_4 (by omega) oA hzk hcX
        intro K hK
        refine step_append_run (by rfl) _ _ 28 (by rfl) (.slice (some ⟨bA, 0, none⟩) n' cA) (.slice (some ⟨xX, 0, none⟩) 1 1) (by simp only [puts, pz, eA]; rfl) (by simp only [puts, pz, eX]; rfl) _ _ hr9 ?_
        exact hK.out _ _ ⟨fk.trans hb9, fun _ kn => absurd (Or.inr (hd 3 (by kernel_rfl))) kn, fun _ h => absurd (Or.inl rfl) h, fun _ h => absurd (Or.inl rfl) h, fun _ _ kn => absurd (Or.inr (hd 3 (by kernel_rfl))) kn, fun _ => by rw [upd_same]; exact ⟨g9, c9, rfl, hc9, hl9, ho9⟩, fun _ => Or.inr (hd 3 (by kernel_rfl)), fun k => by rw [upd_ne u _ (by decide)]; exact fS (k.resolve_left (by decide)), fun k => absurd (fPZ (k.resolve_left (by decide))) hn, fun k => Or.inr (fPZ (k.resolve_left (by decide)))⟩
       ·intro u L W hn hd hJ
        obtain ⟨fk, fE, fA, fX, fEX, fZ, fZA, fS, fP, fPZ⟩ := hJ
        have hzk := fk.size
        obtain ⟨bZ, cZ, eZ, _⟩ := fZ (hd 6 (by kernel_rfl))
        intro K hK
        simp only [puts, pz, eZ]
        go_simp
        apply Shut.go4 (W := W) hK
        ·simp only [puts, pz, eZ]; rfl
        ·exact Below.refl _ _
        ·intro hb
         exact ⟨fk, fun k kn => by rw [upd_ne u _ (by decide)]; exact fE (k.resolve_left (by decide)) (fun h => kn (Or.inr h)), fun k kn => by rw [upd_ne u _ (by decide)]; exact fA (k.resolve_left (by decide)) (fun h => kn (Or.inr h)), fun k kn => by rw [upd_ne u _ (by decide)]; exact fX (k.resolve_left (by decide)) (fun h => kn (Or.inr h)), fun k k2 kn q hq => by rw [upd_ne u _ (by decide)] at hq; rw [upd_ne u _ (by decide)]; exact fEX (k.resolve_left (by decide)) (k2.resolve_left (by decide)) (fun h => kn (Or.inr h)) q hq, fun k => by rw [upd_ne u _ (by decide)]; exact fZ (k.resolve_left (by decide)), fun k => Or.inr (fZA (k.resolve_left (by decide))), fun k => by rw [upd_ne u _ (by decide)]; exact fS (k.resolve_left (by decide)), fun _ => upd_same _ _ _, fun _ => Or.inr (hd 6 (by kernel_rfl))⟩
      ·exact PuresH.nil
      ·intro u L W hJ hL
       obtain ⟨fk, fE, fA, fX, fEX, fZ, fZA, fS, fP, fPZ⟩ := hJ
       obtain ⟨b9, cp9, eZ, hc9, hl9, ho9⟩ := fZ (hL 6 (by kernel_rfl))
       have eP := fP (hL 7 (by kernel_rfl))
       clear hHeld fE fA fX fEX fZ fZA fS fP fPZ
       have hcW := (bcell fk).1
       have hfW := (bcell fk).2
       have zW := fk.size
       have HO9 := hide ho9
       clear ho9
       have g8f := HCB.out.2.2.2.2.2.2.2.2.2.2.2.2.2.2.2.2.2
       simp only [puts, pz, Array.replicate, eZ, eP]
       refine rd1 8 none rfl (fun K hK => ?_)
       go_simp
       all_goals (try go_wp2_with fail)
       refine hK.out _ _ ?_ (fun hH2 => ?_)
       ·exact ⟨by go_simp, by go_simp, by go_simp, by go_simp, by go_simp, Below.setCell (fk.mono (by omega)) (by dsimp only; omega) _⟩
       clear hK K
       (try simp only [Act.put])
       refine wpAnyH_done (by kernel_rfl) ?_ _
       (try simp only [pz])
       obtain ⟨wF, hF⟩ : ∃ x, x = W.setCell ⟨w1.heap.size, 8, none⟩ (.slice (some ⟨b9, 0, none⟩) (n' + 1) cp9) := ⟨_, rfl⟩
       have hge9 := HO9.out.ge
       have HCW := hide (HCB.out.later fk)
       have HP : Spot w1.heap.size W wF := by rw [hF]; exact (Spot.refl _ _).set
       have HOF := hide (show OwnM wF (w.heap.size + 1) (more N n' x88_0) (more X n' x88_1) (more Y n' x88_2) (more S n' x88_3) (more Z n' x88_4) (n' + 1) (some ⟨b9, 0, none⟩) by rw [hF]; exact (HO9.out.off (by omega)).mono (by omega))
       have HCF := hide (show CoB wF w1.heap.size ax ay bx bY cx cy dx dy (some ⟨b9, 0, none⟩) (n' + 1) cp9 by rw [hF]; exact HCW.out.set8)
       have HRF := hide (HP.mine n01 (Mine.later fk HRB.out))
       have HSF := hide (HP.src (by omega) (Src.keep fk HSB.out))
       have HGF := hide (HP.grow (by omega) (gr_belowB HGB.out (fk.mono (by omega))))
       have zF := HP.size
       have hz9 : w3.heap.size ≤ wF.heap.size := by omega
       have hb91 : b9 ≠ w1.heap.size := by omega
       rw [← hF]
       clear hF hcW hfW hH2 HCW HP HO9
       go_wp2
       go_roundg (gk - 1)
       case measure => omega
       case rel => exact ⟨b9, n' + 1, cp9, _, _, _, _, _, by omega, by omega, by omega, hc9, HOF, HCF, HRF, HSF, HGF, hb91, hz9⟩
 have c6x : (x3 == 6) = false := beq_eq_false_iff_ne.2 k6
 have HCF := HC
 have HRF := HR
 have HOF := HO
 have HSF := HS
 have HGF := HG
 clear HC HR HO HS HG
 obtain ⟨c0, c1, c2, c3, c4, c5, c6, c7, c8, f0, f1, f2, f3, f4, f5, f6, f7, f8⟩ := HCF.out
 obtain ⟨v0, cy0, fy0⟩ := HRF.out.cells 0 (by decide)
 obtain ⟨v1, cy1, fy1⟩ := HRF.out.cells 1 (by decide)
 obtain ⟨v2, cy2, fy2⟩ := HRF.out.cells 2 (by decide)
 obtain ⟨v3, cy3, fy3⟩ := HRF.out.cells 3 (by decide)
 obtain ⟨v4, cy4, fy4⟩ := HRF.out.cells 4 (by decide)
 obtain ⟨v5, cy5, fy5⟩ := HRF.out.cells 5 (by decide)
 obtain ⟨v6, cy6, fy6⟩ := HRF.out.cells 6 (by decide)
 obtain ⟨v7, cy7, fy7⟩ := HRF.out.cells 7 (by decide)
 obtain ⟨v8, cy8, fy8⟩ := HRF.out.cells 8 (by decide)
 have HA9 := HA.out
 have hsF := HSF.out
 have hgF := HGF.out
 go_wp2
 simp [bodyPost, results, Tryz.results75, go_sem, *]
 exact ⟨⟨_, _, _, _, _, _, _, _, some ⟨b, 0, none⟩, n, _, N, X, Y, S, Z, rfl, by omega, by omega, by omega, HA9, by refine OwnM.mono (B := w.heap.size + 1) ?_ (by omega); (repeat (first | with_reducible refine OwnM.far ?_ (by omega) | with_reducible refine OwnM.off ?_ (by omega))); exact HOF.out⟩, gwz, swz⟩
end Go.Proofs.YtgcdgdnmcdffoaaGreatDoor
