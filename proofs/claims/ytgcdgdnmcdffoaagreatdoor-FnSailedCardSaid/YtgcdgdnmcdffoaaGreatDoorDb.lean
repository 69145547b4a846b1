/- Walks: tracks are drawn that are rarely not valid. -/
import Derived.Test.YtgcdgdnmcdffoaaGreatDoorDm
import Derived.Deep.LoopGhost
import Derived.Deep.AppendLies
import Derived.Test.YtgcdgdnmcdffoaaGreatDoorIv
namespace Go.Proofs.YtgcdgdnmcdffoaaGreatDoor
open Go.RowKit

def FRowB (g k : Nat) (M : Int) (v : Value) (W : World) : Prop := ∃ b, v = .slice (some ⟨b, 0, none⟩) k k ∧ b ≠ g ∧ b < W.heap.size ∧ ∀ j, j < k → ∃ z : Int, W.cell? ⟨b, j, none⟩ = some (.int .i64 z) ∧ -M ≤ z ∧ z ≤ M
def FAddrB (g : Nat) (M : Int) (v : Value) (W : World) : Prop := ∃ b o, v = .pointer (some ⟨b, o, none⟩) ∧ b ≠ g ∧ b < W.heap.size ∧ ∃ z : Int, W.cell? ⟨b, o, none⟩ = some (.int .i64 z) ∧ -M ≤ z ∧ z ≤ M
def FIB (M : Int) (v : Value) : Prop := ∃ x : Int, v = .int .i64 x ∧ -M ≤ x ∧ x ≤ M
theorem FRowB.later {g k : Nat} {M : Int} {v : Value} {W W' : World} (hg : W.grownBy W' (some g)) (h : FRowB g k M v W) : FRowB g k M v W' := by
 obtain ⟨b, e, h1, h2, h3⟩ := h
 exact ⟨b, e, h1, Nat.lt_of_lt_of_le h2 hg.size, fun j hj => by obtain ⟨z, hz, hb⟩ := h3 j hj; exact ⟨z, (gcell hg b j h2 h1).trans hz, hb⟩⟩
theorem FAddrB.later {g : Nat} {M : Int} {v : Value} {W W' : World} (hg : W.grownBy W' (some g)) (h : FAddrB g M v W) : FAddrB g M v W' := by
 obtain ⟨b, o, e, h1, h2, z, hz, hb⟩ := h
 exact ⟨b, o, e, h1, Nat.lt_of_lt_of_le h2 hg.size, z, (gcell hg b o h2 h1).trans hz, hb⟩
theorem FRowB.new {g k : Nat} {M : Int} {W : World} (h : g < W.heap.size) (c : Array Value) (t : TypeId) (hc : ∀ j, j < k → ∃ z : Int, c[j]? = some (.int .i64 z) ∧ -M ≤ z ∧ z ≤ M) : FRowB g k M (.slice (some ⟨W.heap.size, 0, none⟩) k k) (W.alloc (.cells c t)) :=
 ⟨W.heap.size, rfl, by omega, by simp, fun j hj => by rw [World.cell?_alloc_new]; exact hc j hj⟩
theorem FAddrB.new {g b o : Nat} {M : Int} {W : World} (h1 : b ≠ g) (h2 : b < W.heap.size) (h3 : ∃ z : Int, W.cell? ⟨b, o, none⟩ = some (.int .i64 z) ∧ -M ≤ z ∧ z ≤ M) : FAddrB g M (.pointer (some ⟨b, o, none⟩)) W := ⟨b, o, rfl, h1, h2, h3⟩
theorem OwnI.off {c : Nat} {M : Int} {w : World} {B : Nat} {L : List Int} {n b : Nat} {b' j : Nat} {x : Value} (h : OwnI c M w B L n (some ⟨b, 0, none⟩)) (hb : b' ≠ b) : OwnI c M (w.setCell ⟨b', j, none⟩ x) B L n (some ⟨b, 0, none⟩) := by
 obtain ⟨h0, hM, ⟨h, h2⟩ | ⟨g', e, h3, h4, h5⟩⟩ := h
 ·cases h
 ·injection e with e; injection e with e
  subst e
  refine ⟨h0, hM, .inr ⟨b, rfl, h3, by simpa [World.setCell] using h4, fun k hk => ⟨?_, by rw [World.frozen?_setCell]; exact (h5 k hk).2⟩⟩⟩
  exact cell_set (h5 k hk).1 (by simp; omega)
theorem OwnI.blk {c : Nat} {M : Int} {w : World} {B : Nat} {L : List Int} {n : Nat} {so : Option Addr} (h : OwnI c M w B L n so) (hn : 0 < n) : ∃ b, so = some ⟨b, 0, none⟩ ∧ B ≤ b ∧ b < w.heap.size ∧ ∀ j, j < n * c → w.cell? ⟨b, j, none⟩ = some (.int .i64 (L[j]?.getD 0)) ∧ w.frozen? ⟨b, j, none⟩ = false := by
 obtain ⟨h0, hM, ⟨rfl, h2⟩ | h⟩ := h
 ·omega
 ·exact h
/-- A row of fixes is copied into new memory. -/
theorem app_copy (i0 : TypeInfo) (Hi : Tryz.prog.info? 50 = some i0) (Hz : i0.zero = some (Value.agg #[Value.int .i64 0, Value.int .i64 0, Value.int .i64 0]) ∧ i0.size = 3 ∧ i0.bytes = 24) (W : World) (base e0 b n cap : Nat) (L : List Int) (hl : L.length = n * 3) (hn : n ≤ 41) (h0 : W.ownsRow base 50 3 (.slice (some ⟨e0, 0, none⟩) 0 0) 0 []) (hB : base ≤ W.heap.size)
 (hs : ∀ (j : Nat) (u : Value), (L.map (Value.int .i64))[j]? = some u → W.cell? ((⟨b, 0, none⟩ : Addr).add j) = some u) :
 ∃ v1 W1, (Builtin.append_ #[31, 31] 31 #[.slice (some ⟨e0, 0, none⟩) 0 0, .slice (some ⟨b, 0, none⟩) n cap]).run Tryz.prog W = .ok v1 W1 ∧ W1.ownsRow base 50 3 v1 n (L.map (Value.int .i64)) ∧ Below base W W1 ∧ W.grownBy W1 (some e0) := by
 obtain ⟨v', w', hr, h2, h3, _⟩ := run_append_own (P := Tryz.prog) W base 31 31 50 i0 _ 3 24 Tryz.underlying31 Hi Hz.1 Hz.2.1 Hz.2.2 rfl (by decide) _ 0 [] h0 ⟨b, 0, none⟩ n cap (L.map (Value.int .i64)) (by rw [List.length_map]; exact hl) hs (ints_one L) (by unfold maxLen; omega) (by omega) hB
 rw [Nat.zero_add, List.nil_append] at h2
 exact ⟨v', w', hr, h2, own_grown h0 hB h3, h3⟩
/-- A fix is appended to a row that the call owns. -/
theorem app_fix (i0 : TypeInfo) (Hi : Tryz.prog.info? 50 = some i0) (Hz : i0.zero = some (Value.agg #[Value.int .i64 0, Value.int .i64 0, Value.int .i64 0]) ∧ i0.size = 3 ∧ i0.bytes = 24) (W : World) (base x n : Nat) (v : Value) (L : List Int) (M T a c : Int) (hl : L.length = n * 3) (hn : n ≤ 41) (hM : ∀ i, i < n → -M ≤ L[i * 3]?.getD 0 ∧ L[i * 3]?.getD 0 ≤ M) (hT : -M ≤ T ∧ T ≤ M) (h0 : W.ownsRow base 50 3 v n (L.map (Value.int .i64))) (hB : base ≤ W.heap.size)
 (hs : ∀ (j : Nat) (u : Value), [Value.int .i64 T, Value.int .i64 a, Value.int .i64 c][j]? = some u → W.cell? ((⟨x, 0, none⟩ : Addr).add j) = some u) :
 ∃ so cap W1, (Builtin.append_ #[31, 31] 31 #[v, .slice (some ⟨x, 0, none⟩) 1 1]).run Tryz.prog W = .ok (.slice so (n + 1) cap) W1 ∧ n + 1 ≤ cap ∧ OwnI 3 M W1 base (L ++ [T, a, c]) (n + 1) so ∧ Below base W W1 := by
 obtain ⟨v', w', hr, h2, h3, _⟩ := run_append_own (P := Tryz.prog) W base 31 31 50 i0 _ 3 24 Tryz.underlying31 Hi Hz.1 Hz.2.1 Hz.2.2 rfl (by decide) _ n _ h0 ⟨x, 0, none⟩ 1 1 [.int .i64 T, .int .i64 a, .int .i64 c] rfl hs (one3 _ _ _) (by unfold maxLen; omega) (by omega) hB
 obtain ⟨so, cap, rfl, hc, ho⟩ := ownI_of_row (c := 3) (M := M) (L := L ++ [T, a, c]) (n := n + 1) (by simp; omega) (tl_app hl hM hT) (by rw [List.map_append]; exact h2)
 exact ⟨so, cap, w', hr, hc, ho, own_grown h0 hB h3⟩
theorem fx_at {W : World} {b : Nat} {e : TypeId} {x y z : Value} (hb : b = W.heap.size) : ∀ (j : Nat) (u : Value), [x, y, z][j]? = some u → (W.alloc (.cells #[x, y, z] e)).cell? ((⟨b, 0, none⟩ : Addr).add j) = some u := by subst hb; exact new3
theorem fx_kept {W W1 : World} {x g : Nat} {xs : List Value} (hg : W.grownBy W1 (some g)) (hx : x < W.heap.size) (hne : x ≠ g) (h : ∀ (j : Nat) (u : Value), xs[j]? = some u → W.cell? ((⟨x, 0, none⟩ : Addr).add j) = some u) : ∀ (j : Nat) (u : Value), xs[j]? = some u → W1.cell? ((⟨x, 0, none⟩ : Addr).add j) = some u := fun j u hj => by
 have := h j u hj
 rw [Addr.add_lit] at this ⊢
 exact (gcell hg x _ hx hne).trans this
theorem own_new (W : World) (base b : Nat) (hb : b = W.heap.size) (hB : base ≤ W.heap.size) : (W.alloc (.cells #[] 50)).ownsRow base 50 3 (.slice (some ⟨b, 0, none⟩) 0 0) 0 [] := by
 subst hb
 exact World.ownsRow_made (base := base) (e := 50) (size := 3) W #[] 0 (by omega) (by decide) rfl
/-- An empty row, a row of fixes, a fix in memory of its own, the row of both: what two appends in one statement have gathered. -/
def FE (B : Nat) (e : TypeId) (v : Value) (W : World) : Prop := ∃ b, v = .slice (some ⟨b, 0, none⟩) 0 0 ∧ W.ownsRow B e 3 (.slice (some ⟨b, 0, none⟩) 0 0) 0 []
def FX (T a c : Int) (v : Value) (W : World) : Prop := ∃ x, v = .slice (some ⟨x, 0, none⟩) 1 1 ∧ x < W.heap.size ∧ ∀ (j : Nat) (u : Value), [Value.int .i64 T, Value.int .i64 a, Value.int .i64 c][j]? = some u → W.cell? ((⟨x, 0, none⟩ : Addr).add j) = some u
def FR (B n : Nat) (M : Int) (L : List Int) (v : Value) (W : World) : Prop := ∃ so cap, v = .slice so n cap ∧ n ≤ cap ∧ OwnI 3 M W B L n so
theorem FX.later {T a c : Int} {v : Value} {W W' : World} (hb : Below W.heap.size W W') (h : FX T a c v W) : FX T a c v W' := by
 obtain ⟨x, e, hx, hc⟩ := h
 exact ⟨x, e, Nat.lt_of_lt_of_le hx hb.size, fun j u hj => cell_later hb (hc j u hj)⟩
theorem FR.later {B n : Nat} {M : Int} {L : List Int} {v : Value} {W W' : World} (hb : Below W.heap.size W W') (h : FR B n M L v W) : FR B n M L v W' := by
 obtain ⟨so, cap, e, hc, ho⟩ := h
 exact ⟨so, cap, e, hc, ho.later hb⟩
def JA (wB : World) (b n cap bx : Nat) (L' : List Int) (M T a c : Int) (u : Nat → Value) (L : Nat → Prop) (W : World) : Prop :=
 Below wB.heap.size wB W ∧ (L 0 → ¬ L 3 → FE wB.heap.size 50 (u 57) W) ∧ (L 2 → u 59 = .slice (some ⟨b, 0, none⟩) n cap) ∧ (L 3 → ¬ L 13 → W.ownsRow wB.heap.size 50 3 (u 60) n (L'.map (Value.int .i64))) ∧ (L 12 → ¬ L 13 → FX T a c (u 69) W) ∧
 (L 0 → L 12 → ¬ L 3 → ∀ x, u 69 = .slice (some ⟨x, 0, none⟩) 1 1 → (u 57).ownBlock ≠ some x) ∧ (L 13 → FR wB.heap.size (n + 1) M (L' ++ [T, a, c]) (u 70) W) ∧ (L 14 → u 71 = .pointer (some ⟨bx, 0, none⟩)) ∧ (L 13 → L 3)
def FI41 (v : Value) : Prop := ∃ x : Int, v = .int .i64 x ∧ x ≤ 41
def FLt (n : Nat) (v : Value) : Prop := ∃ c : Bool, v = .bool c ∧ (c = true → n ≤ 40)
set_option maxRecDepth 100000 in
set_option maxHeartbeats 8000000 in
theorem spec_l03DrawAny (g : Nat) (w : World) (h : Src w g) : Calls Tryz.prog 74 #[.pointer (some ⟨g, 0, none⟩)] w (TrC 1 41 2000000000 w g) := by
 have ng := Src.lt h
 have nz0 : ¬ w.heap.size = g := by omega
 have nz1 : ¬ g = w.heap.size := by omega
 obtain ⟨i0, hi, hz0, hz1, hz2⟩ := info_parts infoFix
 have Hi := hide hi
 have Hz := hide (And.intro hz0 (And.intro hz1 hz2))
 clear hi hz0 hz1 hz2
 go_enter Tryz.func74, Tryz.ntmps74
 go_wp2_with fail; (with_reducible refine (spec_l03Draw g _ swz).mono ?_); rintro e w1 ⟨⟨so, n, cap, L, rfl, q1, q2, q3, ho⟩, hg1, hs1⟩; have hc1 := gcell hg1; have hf1 := gfroz hg1; have lg1 := Src.lt hs1; have nga1 : ¬ w1.heap.size = g := (by omega); have ngb1 : ¬ g = w1.heap.size := (by omega); have hzs1 := hg1.size; (try simp at hzs1); have zx1_0 : w.heap.size < w1.heap.size := (by first | omega | (simp at hzs1; omega)); have zy1_0 : w.heap.size < w1.heap.size + 1 := (by omega); have zw1_0 : ¬ w1.heap.size = w.heap.size := (by omega); have zv1_0 : ¬ w.heap.size = w1.heap.size := (by omega); have zu1_0 : w.heap.size < w1.heap.size + 1 + 1 := (by omega); have zt1_0 : ¬ w1.heap.size + 1 = w.heap.size := (by omega); have zr1_0 : ¬ w.heap.size = w1.heap.size + 1 := (by omega)
 simp only [size_al] at ho
 obtain ⟨b, rfl, hbB, hbl, _⟩ := ho.blk (by omega)
 have Ho1 := hide ho
 clear ho
 have nb0 : ¬ b = w.heap.size := by omega
 have nb1 : ¬ w.heap.size = b := by omega
 have nb2 : ¬ b = w1.heap.size := by omega
 have nb3 : ¬ w1.heap.size = b := by omega
 have nb4 : ¬ b = g := by omega
 go_wp2_with fail; (with_reducible refine (spec_l01Next g (n : Int) _ swz (by omega)).mono ?_); rintro e w2 ⟨⟨x2, rfl, hx2⟩, hg2, hs2⟩; have hc2 := gcell hg2; have hf2 := gfroz hg2; have lg2 := Src.lt hs2; have nga2 : ¬ w2.heap.size = g := (by omega); have ngb2 : ¬ g = w2.heap.size := (by omega); have hzs2 := hg2.size; (try simp at hzs2); have zx2_0 : w.heap.size < w2.heap.size := (by first | omega | (simp at hzs2; omega)); have zy2_0 : w.heap.size < w2.heap.size + 1 := (by omega); have zw2_0 : ¬ w2.heap.size = w.heap.size := (by omega); have zv2_0 : ¬ w.heap.size = w2.heap.size := (by omega); have zu2_0 : w.heap.size < w2.heap.size + 1 + 1 := (by omega); have zt2_0 : ¬ w2.heap.size + 1 = w.heap.size := (by omega); have zr2_0 : ¬ w.heap.size = w2.heap.size + 1 := (by omega); have zx2_1 : w1.heap.size < w2.heap.size := (by first | omega | (simp at hzs2; omega)); have zy2_1 : w1.heap.size < w2.heap.size + 1 := (by omega); have zw2_1 : ¬ w2.heap.size = w1.heap.size := (by omega); have zv2_1 : ¬ w1.heap.size = w2.heap.size := (by omega); have zu2_1 : w1.heap.size < w2.heap.size + 1 + 1 := (by omega); have zt2_1 : ¬ w2.heap.size + 1 = w1.heap.size := (by omega); have zr2_1 : ¬ w1.heap.size = w2.heap.size + 1 := (by omega); have zx2_2 : b < w2.heap.size := (by first | omega | (simp at hzs2; omega)); have zy2_2 : b < w2.heap.size + 1 := (by omega); have zw2_2 : ¬ w2.heap.size = b := (by omega); have zv2_2 : ¬ b = w2.heap.size := (by omega); have zu2_2 : b < w2.heap.size + 1 + 1 := (by omega); have zt2_2 : ¬ w2.heap.size + 1 = b := (by omega); have zr2_2 : ¬ b = w2.heap.size + 1 := (by omega)
 obtain ⟨p1, p2⟩ := hx2 (by omega)
 clear hx2
 obtain ⟨j, rfl⟩ := Int.eq_ofNat_of_zero_le p1
 have hjn : j < n := by omega
 go_wp2_with fail; (with_reducible refine (spec_l01Next g 30 _ swz (by decide)).mono ?_); rintro e w3 ⟨⟨x3, rfl, hx3⟩, hg3, hs3⟩; have hc3 := gcell hg3; have hf3 := gfroz hg3; have lg3 := Src.lt hs3; have nga3 : ¬ w3.heap.size = g := (by omega); have ngb3 : ¬ g = w3.heap.size := (by omega); have hzs3 := hg3.size; (try simp at hzs3); have zx3_0 : w.heap.size < w3.heap.size := (by first | omega | (simp at hzs3; omega)); have zy3_0 : w.heap.size < w3.heap.size + 1 := (by omega); have zw3_0 : ¬ w3.heap.size = w.heap.size := (by omega); have zv3_0 : ¬ w.heap.size = w3.heap.size := (by omega); have zu3_0 : w.heap.size < w3.heap.size + 1 + 1 := (by omega); have zt3_0 : ¬ w3.heap.size + 1 = w.heap.size := (by omega); have zr3_0 : ¬ w.heap.size = w3.heap.size + 1 := (by omega); have zx3_1 : w1.heap.size < w3.heap.size := (by first | omega | (simp at hzs3; omega)); have zy3_1 : w1.heap.size < w3.heap.size + 1 := (by omega); have zw3_1 : ¬ w3.heap.size = w1.heap.size := (by omega); have zv3_1 : ¬ w1.heap.size = w3.heap.size := (by omega); have zu3_1 : w1.heap.size < w3.heap.size + 1 + 1 := (by omega); have zt3_1 : ¬ w3.heap.size + 1 = w1.heap.size := (by omega); have zr3_1 : ¬ w1.heap.size = w3.heap.size + 1 := (by omega); have zx3_2 : b < w3.heap.size := (by first | omega | (simp at hzs3; omega)); have zy3_2 : b < w3.heap.size + 1 := (by omega); have zw3_2 : ¬ w3.heap.size = b := (by omega); have zv3_2 : ¬ b = w3.heap.size := (by omega); have zu3_2 : b < w3.heap.size + 1 + 1 := (by omega); have zt3_2 : ¬ w3.heap.size + 1 = b := (by omega); have zr3_2 : ¬ b = w3.heap.size + 1 := (by omega)
 clear hx3
 have b0 : w3.cell? ⟨w1.heap.size, 0, none⟩ = some (.slice (some ⟨b, 0, none⟩) n cap) := by go_simp
 have b1 : w3.frozen? ⟨w1.heap.size, 0, none⟩ = false := by go_simp
 have b2' : w3.cell? ⟨w.heap.size, 0, none⟩ = some (.slice none 0 0) := by go_simp
 have b3' : w3.frozen? ⟨w.heap.size, 0, none⟩ = false := by go_simp
 have Ho := (((Ho1.out.later (Below.alloc (Below.refl _ _) (Nat.le_refl _) (.cells #[.slice (some ⟨b, 0, none⟩) n cap] 33))).grown hg2 (by omega)).grown hg3 (by omega)).mono (show (20000 : Int) ≤ 2000000000 by decide) (Nat.le_refl _)
 obtain ⟨_, hbb, _, hbl3, hbc⟩ := Ho.blk (by omega)
 injection hbb with hbb
 injection hbb with hbb
 subst hbb
 have G3 := hide (show w.grownBy w3 (some g) from gr_step (gr_step (show w.grownBy _ (some g) from gr_alloc (gr_step (gr_alloc (World.grownBy.refl _ _) _) hg1) _) hg2) hg3)
 have HG2 := hide hg2
 have HG3 := hide hg3
 have HO := hide Ho
 clear Ho hc1 hf1 hc2 hf2 hc3 hf3 hg1 hg2 hg3
 have hg3 := G3.out
 obtain ⟨f0, f1⟩ := hbc (j * 3) (by omega)
 obtain ⟨f2, f3⟩ := hbc (j * 3 + 1) (by omega)
 obtain ⟨m, rfl⟩ : ∃ m, n = m + 1 := ⟨n - 1, by omega⟩
 obtain ⟨f4, f5⟩ := hbc (m * 3) (by omega)
 have Hbc := hide hbc
 clear hbc
 have hj1 : (0 : Int) ≤ (j : Int) := by omega
 have hj2 : (j : Int) < (m : Int) + 1 := by omega
 by_cases k0 : x3 = 0
 ·subst k0
  have hcp : (1 : Int) ≤ (cap : Int) := by omega
  go_wp2
  simp [bodyPost, results, Tryz.results74, go_sem, *]
  exact ⟨⟨_, _, _, _, rfl, by omega, by omega, by omega, ((HO.out.take (m := 1) (by omega)).off (by omega)).off (by omega) |>.mono (by omega) (by omega)⟩, gwz, swz⟩
 have c0 : (x3 == 0) = false := beq_eq_false_iff_ne.2 k0
 by_cases k1 : x3 = 1
 ·subst k1
  clear f2 f3 f4 f5
  go_upto_region 7 with fail
  have HwE : World.grownBy w w3 (some g) := gwz
  have HcE0 : World.cell? w3 ⟨w1.heap.size, 0, none⟩ = some (.slice (some ⟨b, 0, none⟩) (m + 1) cap) := (by go_simp)
  refine wp_region_held_drew (S := fun W => W.cell? ⟨w1.heap.size, 0, none⟩ = some (.slice (some ⟨b, 0, none⟩) (m + 1) cap) ∧ World.grownBy w W (some g) ∧ Src W g) (by kernel_rfl) ⟨HcE0, gr_drew HwE, by assumption⟩ (fun hHeld => ?_)
  refine tkD 0 (some 23) rfl ?_; simp only [pz]
  refine tkD 1 (some 24) rfl ?_; simp only [pz]
  refine tkD 2 (some 25) rfl ?_; simp only [pz]
  refine tkD 4 (some 27) rfl ?_; simp only [pz]
  refine wpAnyH_inv2 (fuel := 1) [3, 5, 6, 7, 9] [8] [26, 28, 29, 30, 31, 32] (fun u L W => (World.grownBy w3 W (some g) ∧ Src W g) ∧ (L 3 → FRowB g 4 2000000000 (u 26) W) ∧ (L 5 → FNat 4 (u 28)) ∧ (L 6 → FAddrB g 2000000000 (u 29) W) ∧ (L 7 → FIB 2000000000 (u 30)) ∧ (L 8 → (u 31) = (.pointer (some ⟨b, j * 3, none⟩))) ∧ (L 9 → (u 32) = (.pointer (some ⟨b, j * 3, none⟩))) ∧ True) (by decide) (by kernel_rfl) (by kernel_rfl) (fun _ _ _ _ _ h => h) (fun u L W hJ => ⟨cell_grown hJ.1.1 (by omega) HcE0, HwE.trans hJ.1.1, hJ.1.2⟩) (fun u L hL => ⟨⟨gr_drew (World.grownBy.refl _ _), by assumption⟩, fun k => absurd k (hL 3 (by decide)), fun k => absurd k (hL 5 (by decide)), fun k => absurd k (hL 6 (by decide)), fun k => absurd k (hL 7 (by decide)), fun k => absurd k (hL 8 (by decide)), fun k => absurd k (hL 9 (by decide)), trivial⟩) ?_ ?_ ?_
  ·refine sc1 26 ?_ ?_
   rotate_left
   refine sc1 28 ?_ ?_
   rotate_left
   refine sc1 29 ?_ ?_
   rotate_left
   refine sc1 30 ?_ ?_
   rotate_left
   refine sc1 32 ?_ ?_
   rotate_left
   exact StepsH.nil
   ·intro u L W hn hd hJ
    obtain ⟨hk, f26, f28, f29, f30, f31, f32, _⟩ := hJ
    have hnd := hk.2
    intro K hK
    simp only [puts, pz]
    go_simp
    all_goals (try go_wp2_with fail)
    all_goals
     apply Shut.go3 (W := W) (g := g) hK
     ·simp only [puts, pz]; rfl
     ·exact gbz
     ·exact sbz
     ·intro hg hs; exact ⟨Dr.step hk hg hs, fun _ => by rw [upd_same]; exact FRowB.new (Src.lt hnd) _ _ (fun j hj => by rcases (show j = 0 ∨ j = 1 ∨ j = 2 ∨ j = 3 by omega) with rfl | rfl | rfl | rfl <;> exact ⟨_, rfl, by decide, by decide⟩), unz f28, unz fun h => FAddrB.later hg (f29 h), unz f30, unz f31, unz f32, trivial⟩
   ·intro u L W hn hd hJ
    obtain ⟨hk, f26, f28, f29, f30, f31, f32, _⟩ := hJ
    have hnd := hk.2
    intro K hK
    simp only [puts, pz]
    go_simp; (go_at_call 59; (with_reducible refine (spec_l01NextN g 4 4 _ hnd (by decide) (by decide) (by decide)).mono ?_); rintro e w9 ⟨⟨xx, rfl, hxx⟩, hg, hs⟩)
    all_goals (try go_wp2_with fail)
    all_goals
     apply Shut.go3 (W := W) (g := g) hK
     ·simp only [puts, pz]; rfl
     ·exact gbz
     ·exact sbz
     ·intro hg hs; exact ⟨Dr.step hk hg hs, unz fun h => FRowB.later hg (f26 h), fun _ => by rw [upd_same]; exact ⟨_, rfl, by first | assumption | omega⟩, unz fun h => FAddrB.later hg (f29 h), unz f30, unz f31, unz f32, trivial⟩
   ·intro u L W hn hd hJ
    obtain ⟨hk, f26, f28, f29, f30, f31, f32, _⟩ := hJ
    have hnd := hk.2
    obtain ⟨b26, e26, nb26, lb26, cb26⟩ := f26 (hd 3 (by kernel_rfl))
    obtain ⟨x28, e28, l28⟩ := f28 (hd 5 (by kernel_rfl))
    have il28 : (0 : Int) ≤ (x28 : Int) := (by omega); have iu28 : (x28 : Int) < (4 : Int) := (by omega)
    intro K hK
    simp only [puts, pz, e26, e28]
    go_simp
    all_goals (try go_wp2_with fail)
    all_goals
     apply Shut.go3 (W := W) (g := g) hK
     ·simp only [puts, pz, e26, e28]; rfl
     ·exact gbz
     ·exact sbz
     ·intro hg hs; exact ⟨Dr.step hk hg hs, unz fun h => FRowB.later hg (f26 h), unz f28, fun _ => by rw [upd_same]; exact FAddrB.new nb26 lb26 (cb26 _ (by omega)), unz f30, unz f31, unz f32, trivial⟩
   ·intro u L W hn hd hJ
    obtain ⟨hk, f26, f28, f29, f30, f31, f32, _⟩ := hJ
    have hnd := hk.2
    obtain ⟨b29, o29, e29, nb29, lb29, z29, cz29, hz29⟩ := f29 (hd 6 (by kernel_rfl))
    intro K hK
    simp only [puts, pz, e29]
    go_simp
    all_goals (try go_wp2_with fail)
    all_goals
     apply Shut.go3 (W := W) (g := g) hK
     ·simp only [puts, pz, e29]; rfl
     ·exact gbz
     ·exact sbz
     ·intro hg hs; exact ⟨Dr.step hk hg hs, unz fun h => FRowB.later hg (f26 h), unz f28, unz fun h => FAddrB.later hg (f29 h), fun _ => by rw [upd_same]; exact ⟨_, rfl, hz29⟩, unz f31, unz f32, trivial⟩
   ·intro u L W hn hd hJ
    obtain ⟨hk, f26, f28, f29, f30, f31, f32, _⟩ := hJ
    have hnd := hk.2
    obtain e31 := f31 (hd 8 (by kernel_rfl))
    intro K hK
    simp only [puts, pz, e31]
    go_simp
    all_goals (try go_wp2_with fail)
    all_goals
     apply Shut.go3 (W := W) (g := g) hK
     ·simp only [puts, pz, e31]; rfl
     ·exact gbz
     ·exact sbz
     ·intro hg hs; exact ⟨Dr.step hk hg hs, unz fun h => FRowB.later hg (f26 h), unz f28, unz fun h => FAddrB.later hg (f29 h), unz f30, unz f31, fun _ => upd_same _ _ _, trivial⟩
  ·refine PuresH.cons (d := 31) (o := ⟨some 31, _, _, _, _, _⟩) rfl rfl (by kernel_rfl) (by kernel_rfl) ?_ ?_
   rotate_left
   exact PuresH.nil
   ·intro u L W hn hd hJ
    obtain ⟨hk, f26, f28, f29, f30, f31, f32, _⟩ := hJ
    have hnd := hk.2
    simp only [puts, pz]
    refine ⟨?_, Or.inl ⟨by kernel_rfl, ?_⟩, ?_⟩; rotate_left; focus (intro W0 hSw; (try dsimp only at hSw); go_simp; (try with_reducible rfl))
    exact ⟨hk, unz f26, unz f28, unz f29, unz f30, fun _ => upd_same _ _ _, unz f32, trivial⟩
  ·intro u L W hJ hL
   obtain ⟨hk, f26, f28, f29, f30, f31, f32, _⟩ := hJ
   obtain ⟨b26, e26, nb26, lb26, cb26⟩ := f26 (hL 3 (by kernel_rfl))
   obtain ⟨x28, e28, l28⟩ := f28 (hL 5 (by kernel_rfl))
   obtain ⟨b29, o29, e29, nb29, lb29, z29, cz29, hz29⟩ := f29 (hL 6 (by kernel_rfl))
   obtain ⟨x30, e30, hx30⟩ := f30 (hL 7 (by kernel_rfl))
   obtain e31 := f31 (hL 8 (by kernel_rfl))
   obtain e32 := f32 (hL 9 (by kernel_rfl))
   clear hHeld; have hcW := gcell hk.1; have hfW := gfroz hk.1; have hHeld := And.intro (HwE.trans hk.1) hk.2; have lW := hk.1.size
   clear f26
   clear f28
   clear f29
   clear f30
   clear f31
   clear f32
   simp only [puts, pz, Array.replicate, e26, e28, e29, e30, e31, e32]
   refine rd1 10 none rfl (fun K hK => ?_)
   go_simp
   all_goals (try go_wp2_with fail)
   refine hK.out _ _ ?_ (fun hH2 => ?_)
   ·have hHg := hHeld.1; have hHs := hHeld.2; exact ⟨(by go_simp; done), gwz, swz⟩
   clear hK K hHeld; (have hHeld := hH2.2); clear hH2; (try simp only [Act.put])
   refine wpAnyH_done (by kernel_rfl) ?_ _; (try simp only [pz])
   obtain ⟨hgE, hsE⟩ := hHeld
   have HO6 := (HO.out.grown hk.1 (by omega)).set (j * 3) x30 hx30
   obtain ⟨wE, hE⟩ : ∃ x, x = W.setCell ⟨b, j * 3, none⟩ (.int .i64 x30) := ⟨_, rfl⟩
   have z6 := hk.1.size
   have zW0 : w.heap.size < W.heap.size := by omega
   have zW1 : w1.heap.size < W.heap.size := by omega
   have e0 : wE.cell? ⟨w1.heap.size, 0, none⟩ = some (.slice (some ⟨b, 0, none⟩) (m + 1) cap) := by rw [hE]; go_simp
   have e4 : wE.cell? ⟨w.heap.size, 0, none⟩ = some (.slice none 0 0) := by rw [hE]; go_simp
   have e5 : wE.frozen? ⟨w.heap.size, 0, none⟩ = false := by rw [hE]; go_simp
   rw [← hE] at HO6 hgE hsE ⊢
   clear hE hcW hfW hk
   go_wp2
   simp [bodyPost, results, Tryz.results74, go_sem, *]
   exact ⟨⟨_, _, _, _, rfl, by omega, by omega, by omega, (HO6.off (by omega)).mono (by omega) (by omega)⟩, gwz, swz⟩
 have c1 : (x3 == 1) = false := beq_eq_false_iff_ne.2 k1
 by_cases k2 : x3 = 2
 ·subst k2
  go_wp2
  simp [bodyPost, results, Tryz.results74, go_sem, *]
  exact ⟨⟨_, _, _, _, rfl, by omega, by omega, by omega, ((HO.out.set (j * 3 + 1) 1000001 (by decide)).off (by omega)).mono (by omega) (by omega)⟩, gwz, swz⟩
 have c2 : (x3 == 2) = false := beq_eq_false_iff_ne.2 k2
 by_cases k3 : x3 = 3
 ·subst k3
  have HO3 := hide ((((Ho1.out.later (Below.alloc (Below.refl _ _) (Nat.le_refl _) (.cells #[.slice (some ⟨b, 0, none⟩) (m + 1) cap] 33))).grown HG2.out (by omega)).grown HG3.out (by omega)).mono (show (20000 : Int) ≤ 20000 + 10 * ((m + 1 : Nat) : Int) by omega) (Nat.le_refl _))
  have hw40 : ∀ z : Nat, z < 2 → IntKind.i64.wrap (40 + (z : Int)) = 40 + (z : Int) := fun z hz => IntWalk.i64_in _ (by omega)
  clear HO Ho1 f0 f1 f2 f3 f4 f5
  go_wp2
  go_loopg [] (41 - m) (fun k wr => ∃ (b' n' cap' : Nat) (L' : List Int), n' + k = 42 ∧ 2 ≤ n' ∧ n' ≤ 41 ∧ n' ≤ cap' ∧ Hid (OwnI 3 (20000 + 10 * (n' : Int)) wr (w.heap.size + 1) L' n' (some ⟨b', 0, none⟩)) ∧ wr.cell? ⟨w1.heap.size, 0, none⟩ = some (.slice (some ⟨b', 0, none⟩) n' cap') ∧ wr.frozen? ⟨w1.heap.size, 0, none⟩ = false ∧ wr.cell? ⟨w.heap.size, 0, none⟩ = some (.slice none 0 0) ∧ wr.frozen? ⟨w.heap.size, 0, none⟩ = false ∧ Hid (Src wr g) ∧ Hid (w.grownBy wr (some g)) ∧ b' ≠ w1.heap.size ∧ w3.heap.size ≤ wr.heap.size)
  case atStart => exact ⟨b, m + 1, cap, L, by omega, by omega, by omega, by omega, HO3, b0, b1, b2', b3', hide hs3, G3, by omega, Nat.le_refl _⟩
  case round =>
   clear b0 b1 b2' b3'
   obtain ⟨b', n', cap', L', hnk, hn2, hn41, hnc, HOr, d0, d1, d2, d3, HSr, HGr, nbb, hsz⟩ := hrel
   have lgr := Src.lt HSr.out
   have hsr := HSr.out
   have hgr := HGr.out
   have zr0 : w.heap.size < wr.heap.size := by omega
   have zr1 : w1.heap.size < wr.heap.size := by omega
   go_upto_region 11 with fail
   have HwE : World.grownBy w wr (some g) := gwz
   have HcE0 : World.cell? wr ⟨w1.heap.size, 0, none⟩ = some (.slice (some ⟨b', 0, none⟩) n' cap') := (by go_simp)
   refine wp_region_held_drew (S := fun W => W.cell? ⟨w1.heap.size, 0, none⟩ = some (.slice (some ⟨b', 0, none⟩) n' cap') ∧ World.grownBy w W (some g) ∧ Src W g) (by kernel_rfl) ⟨HcE0, gr_drew HwE, by assumption⟩ (fun hHeld => ?_)
   refine tkD 0 (some 42) rfl ?_; simp only [pz]
   refine tkD 1 (some 43) rfl ?_; simp only [pz]
   refine tkD 2 (some 44) rfl ?_; simp only [pz]
   refine tkD 3 (some 45) rfl ?_; simp only [pz]
   refine wpAnyH_inv (fuel := 0) [4, 5, 6] [46, 47, 48] (fun u L W => (World.grownBy wr W (some g) ∧ Src W g) ∧ (L 4 → FNat 2 (u 46)) ∧ (L 5 → FI41 (u 47)) ∧ (L 6 → FLt n' (u 48)) ∧ True) (by decide) (by kernel_rfl) (fun u L W hJ => ⟨cell_grown hJ.1.1 (by omega) HcE0, HwE.trans hJ.1.1, hJ.1.2⟩) (fun u L hL => ⟨⟨gr_drew (World.grownBy.refl _ _), by assumption⟩, fun k => absurd k (hL 4 (by decide)), fun k => absurd k (hL 5 (by decide)), fun k => absurd k (hL 6 (by decide)), trivial⟩) ?_ ?_
   ·refine sc1 46 ?_ ?_
    rotate_left
    refine sc1 47 ?_ ?_
    rotate_left
    refine sc1 48 ?_ ?_
    rotate_left
    exact StepsH.nil
    ·intro u L W hn hd hJ
     obtain ⟨hk, f46, f47, f48, _⟩ := hJ
     have hnd := hk.2
     intro K hK
     simp only [puts, pz]
     go_simp; (go_at_call 59; (with_reducible refine (spec_l01NextN g 2 2 _ hnd (by decide) (by decide) (by decide)).mono ?_); rintro e w9 ⟨⟨xx, rfl, hxx⟩, hg, hs⟩)
     all_goals (try go_wp2_with fail)
     all_goals
      apply Shut.go3 (W := W) (g := g) hK
      ·simp only [puts, pz]; rfl
      ·exact gbz
      ·exact sbz
      ·intro hg hs; exact ⟨Dr.step hk hg hs, fun _ => by rw [upd_same]; exact ⟨_, rfl, by first | assumption | omega⟩, unz f47, unz f48, trivial⟩
    ·intro u L W hn hd hJ
     obtain ⟨hk, f46, f47, f48, _⟩ := hJ
     have hnd := hk.2
     obtain ⟨x46, e46, l46⟩ := f46 (hd 4 (by kernel_rfl))
     have il46 : (0 : Int) ≤ (x46 : Int) := (by omega); have iu46 : (x46 : Int) < (2 : Int) := (by omega)
     intro K hK
     simp only [puts, pz, e46]
     go_simp
     all_goals (try go_wp2_with fail)
     all_goals
      apply Shut.go3 (W := W) (g := g) hK
      ·simp only [puts, pz, e46]; rfl
      ·exact gbz
      ·exact sbz
      ·intro hg hs; exact ⟨Dr.step hk hg hs, unz f46, fun _ => by rw [upd_same]; exact ⟨_, rfl, by omega⟩, unz f48, trivial⟩
    ·intro u L W hn hd hJ
     obtain ⟨hk, f46, f47, f48, _⟩ := hJ
     have hnd := hk.2
     obtain ⟨x47, e47, hx47⟩ := f47 (hd 5 (by kernel_rfl))
     intro K hK
     simp only [puts, pz, e47]
     go_simp
     all_goals (try go_wp2_with fail)
     all_goals
      apply Shut.go3 (W := W) (g := g) hK
      ·simp only [puts, pz, e47]; rfl
      ·exact gbz
      ·exact sbz
      ·intro hg hs; exact ⟨Dr.step hk hg hs, unz f46, unz f47, fun _ => by rw [upd_same]; exact ⟨_, rfl, by exact fun h => Nat.le_of_lt_succ (Int.ofNat_lt.1 (Int.lt_of_lt_of_le (of_decide_eq_true h) hx47))⟩, trivial⟩
   ·intro u L W hJ hL
    obtain ⟨hk, f46, f47, f48, _⟩ := hJ
    obtain ⟨x46, e46, l46⟩ := f46 (hL 4 (by kernel_rfl))
    obtain ⟨x47, e47, hx47⟩ := f47 (hL 5 (by kernel_rfl))
    obtain ⟨x48, e48, hx48⟩ := f48 (hL 6 (by kernel_rfl))
    clear hHeld; have hcW := gcell hk.1; have hfW := gfroz hk.1; have hHeld := And.intro (HwE.trans hk.1) hk.2; have lW := hk.1.size
    clear f46
    clear f47
    clear f48
    simp only [puts, pz, setAll, Array.replicate, e46, e47, e48]
    refine wpAnyH_done (by kernel_rfl) ?_ _; (try simp only [pz])
    obtain ⟨hgE, hsE⟩ := hHeld
    have z6 := hk.1.size
    have zW0 : w.heap.size < W.heap.size := by omega
    have zW1 : w1.heap.size < W.heap.size := by omega
    have HOE := hide (HOr.out.grown hk.1 (by omega))
    have e0 : W.cell? ⟨w1.heap.size, 0, none⟩ = some (.slice (some ⟨b', 0, none⟩) n' cap') := by go_simp
    have e1 : W.frozen? ⟨w1.heap.size, 0, none⟩ = false := by go_simp
    have e2 : W.cell? ⟨w.heap.size, 0, none⟩ = some (.slice none 0 0) := by go_simp
    have e3 : W.frozen? ⟨w.heap.size, 0, none⟩ = false := by go_simp
    obtain ⟨wE, rfl⟩ : ∃ x : World, x = W := ⟨_, rfl⟩
    clear hcW hfW hk d0 d1 d2 d3 HOr
    cases x48
    ·go_wp2
     simp [bodyPost, results, Tryz.results74, go_sem, *]
     exact ⟨⟨_, _, _, _, rfl, by omega, by omega, hnc, (OwnI.far HOE.out (by omega)).mono (by omega) (by omega)⟩, gwz, swz⟩
    ·have hn40 := hx48 rfl
     obtain ⟨_, hbb', hbB', hbl', hbc'⟩ := HOE.out.blk (by omega)
     injection hbb' with hbb'
     injection hbb' with hbb'
     subst hbb'
     obtain ⟨m', rfl⟩ : ∃ m', n' = m' + 1 := ⟨n' - 1, by omega⟩
     obtain ⟨f0, _⟩ := hbc' (m' * 3) (by omega)
     obtain ⟨f1, _⟩ := hbc' (m' * 3 + 1) (by omega)
     obtain ⟨f2, _⟩ := hbc' (m' * 3 + 2) (by omega)
     have wm : IntKind.i64.wrap (m' : Int) = (m' : Int) := IntWalk.i64_in _ (by omega)
     have hm1 : (0 : Int) ≤ (m' : Int) := by omega
     have hm2 : (m' : Int) < (m' : Int) + 1 := by omega
     have hMm := HOE.out.2.1 m' (by omega)
     have hl' := HOE.out.1
     have HM' := hide HOE.out.2.1
     obtain ⟨T0, hT0⟩ : ∃ x, x = L'[m' * 3]?.getD 0 := ⟨_, rfl⟩
     obtain ⟨X0, hX0⟩ : ∃ x, x = L'[m' * 3 + 1]?.getD 0 := ⟨_, rfl⟩
     obtain ⟨Y0, hY0⟩ : ∃ x, x = L'[m' * 3 + 2]?.getD 0 := ⟨_, rfl⟩
     rw [← hT0] at f0 hMm
     rw [← hX0] at f1
     rw [← hY0] at f2
     clear hT0 hX0 hY0
     have Hl' := hide hl'
     clear hl' hbc'
     go_upto_region 13 with fail
     have hl' := Hl'.out
     have wt : IntKind.i64.wrap (T0 + 10) = T0 + 10 := IntWalk.i64_in _ (by omega)
     have HMt := hide hMm
     have HM' := hide HOE.out.2.1
     have Hsrc := hide (HOE.out.cells)
     obtain ⟨wB, hwB⟩ : ∃ x, x = wE.alloc (.cells #[.int .i64 T0, .int .i64 X0, .int .i64 Y0] 50) := ⟨_, rfl⟩
     have zB : wB.heap.size = wE.heap.size + 1 := by rw [hwB]; simp
     have hEB : Below wE.heap.size wE wB := by rw [hwB]; exact Below.alloc (Below.refl _ _) (Nat.le_refl _) _
     have g0 : wB.cell? ⟨wE.heap.size, 0, none⟩ = some (.int .i64 T0) := by rw [hwB]; go_simp
     have g1 : wB.cell? ⟨wE.heap.size, 1, none⟩ = some (.int .i64 X0) := by rw [hwB]; go_simp
     have g2 : wB.cell? ⟨wE.heap.size, 2, none⟩ = some (.int .i64 Y0) := by rw [hwB]; go_simp
     have g3 := cell_later hEB e0
     have g4 := frozen_later hEB e0 e1
     have g5 := cell_later hEB e2
     have g6 := frozen_later hEB e2 e3
     have HsB := hide (fun j u hj => cell_later hEB (Hsrc.out j u hj))
     have HgB := hide (show w.grownBy wB (some g) from gr_belowB hgE (hEB.mono (by omega)))
     have HSB := hide (Src.keep hEB hsE)
     rw [← hwB]
     have zB0 : w.heap.size < wB.heap.size := by omega
     have zB1 : w1.heap.size < wB.heap.size := by omega
     have zB2 : wE.heap.size < wB.heap.size := by omega
     clear hwB e0 e1 e2 e3 hgE hsE f0 f1 f2 HOE Hsrc hMm hbl'
     have hHI := Hi.out
     have hHz := Hz.out
     refine wp_region_held_drew (S := fun W => W.cell? ⟨wE.heap.size, 0, none⟩ = some (.int .i64 T0) ∧ W.cell? ⟨wE.heap.size, 1, none⟩ = some (.int .i64 X0) ∧ W.cell? ⟨wE.heap.size, 2, none⟩ = some (.int .i64 Y0) ∧ Below w.heap.size wB W) (by kernel_rfl) ⟨g0, g1, g2, Below.drew (Below.refl _ _)⟩ (fun hHeld => ?_)
     refine tkD 1 (some 58) rfl ?_; simp only [pz]
     refine tkD 4 (some 61) rfl ?_; simp only [pz]
     refine tkD 5 (some 62) rfl ?_; simp only [pz]
     refine tkD 6 (some 63) rfl ?_; simp only [pz]
     refine tkD 7 (some 64) rfl ?_; simp only [pz]
     refine tkD 8 (some 65) rfl ?_; simp only [pz]
     refine tkD 9 (some 66) rfl ?_; simp only [pz]
     refine tkD 10 (some 67) rfl ?_; simp only [pz]
     refine tkD 11 (some 68) rfl ?_; simp only [pz]
     refine wpAnyH_inv2 (fuel := 1) [0, 2, 3, 12, 13, 14] [] [57, 59, 60, 69, 70, 71] (JA wB b' (m' + 1) cap' w1.heap.size L' (20000 + 10 * ((m' + 1 + 1 : Nat) : Int)) (T0 + 10) X0 Y0) (by decide) (by kernel_rfl) (by kernel_rfl) (fun _ _ _ _ _ h => h) (fun u L W hJ => ⟨cell_later hJ.1 g0, cell_later hJ.1 g1, cell_later hJ.1 g2, hJ.1.mono (by omega)⟩) (fun u L hL => ⟨Below.drew (Below.refl _ _), fun k => absurd k (hL 0 (by decide)), fun k => absurd k (hL 2 (by decide)), fun k => absurd k (hL 3 (by decide)), fun k => absurd k (hL 12 (by decide)), fun k => absurd k (hL 0 (by decide)), fun k => absurd k (hL 13 (by decide)), fun k => absurd k (hL 14 (by decide)), fun k => absurd k (hL 13 (by decide))⟩) ?_ ?_ ?_
     ·refine sc1 57 ?_ ?_
      rotate_left
      refine sc1 59 ?_ ?_
      rotate_left
      refine sc1 60 ?_ ?_
      rotate_left
      refine sc1 69 ?_ ?_
      rotate_left
      refine sc1 70 ?_ ?_
      rotate_left
      refine sc1 71 ?_ ?_
      rotate_left
      exact StepsH.nil
      ·intro u L W hn hd hJ
       obtain ⟨hk, f57, f59, f60, f69, fp, fr, f71, f13⟩ := hJ
       intro K hK
       simp only [puts, pz]
       go_simp
       apply Shut.go4 (W := W) hK
       ·simp only [puts, pz]; rfl
       ·exact Below.alloc (Below.refl _ _) (Nat.le_refl _) _
       ·intro hb
        exact ⟨bstep hk hb, fun _ _ => by rw [upd_same]; exact ⟨_, rfl, own_new W _ _ rfl hk.size⟩, unz f59, fun k kn => by rw [upd_ne u _ (by decide)]; exact (f60 (k.resolve_left (by decide)) (fun h => kn (Or.inr h))).alloc _,
         fun k kn => by rw [upd_ne u _ (by decide)]; exact FX.later hb (f69 (k.resolve_left (by decide)) (fun h => kn (Or.inr h))), fun _ k kn x hx => by
          rw [upd_same]
          rw [upd_ne u _ (by decide)] at hx
          obtain ⟨x', ex, hxl, _⟩ := f69 (k.resolve_left (by decide)) (fun h => kn (Or.inr (f13 h)))
          rw [hx] at ex
          injection ex with ex _ _
          injection ex with ex
          injection ex with ex
          simp only [Value.ownBlock, ne_eq, Option.some.injEq]
          omega, fun k => by rw [upd_ne u _ (by decide)]; exact FR.later hb (fr (k.resolve_left (by decide))), unz f71, fun k => Or.inr (f13 (k.resolve_left (by decide)))⟩
      ·intro u L W hn hd hJ
       obtain ⟨hk, f57, f59, f60, f69, fp, fr, f71, f13⟩ := hJ
       have hcS := (bcell hk).1
       intro K hK
       simp only [puts, pz]
       go_simp
       apply Shut.go4 (W := W) hK
       ·simp only [puts, pz]; rfl
       ·exact Below.refl _ _
       ·intro hb
        exact ⟨hk, fun k kn => by rw [upd_ne u _ (by decide)]; exact f57 (k.resolve_left (by decide)) (fun h => kn (Or.inr h)), fun _ => upd_same _ _ _, fun k kn => by rw [upd_ne u _ (by decide)]; exact f60 (k.resolve_left (by decide)) (fun h => kn (Or.inr h)),
         fun k kn => by rw [upd_ne u _ (by decide)]; exact f69 (k.resolve_left (by decide)) (fun h => kn (Or.inr h)), fun k0 k kn x hx => by
          rw [upd_ne u _ (by decide)] at hx ⊢
          exact fp (k0.resolve_left (by decide)) (k.resolve_left (by decide)) (fun h => kn (Or.inr h)) x hx, fun k => by rw [upd_ne u _ (by decide)]; exact fr (k.resolve_left (by decide)), unz f71, fun k => Or.inr (f13 (k.resolve_left (by decide)))⟩
      ·intro u L W hn hd hJ
       obtain ⟨hk, f57, f59, f60, f69, fp, fr, f71, f13⟩ := hJ
       obtain ⟨b57, e57, o57⟩ := f57 (hd 0 (by kernel_rfl)) hn
       have e59 := f59 (hd 2 (by kernel_rfl))
       have hzk := hk.size
       intro K hK
       refine step_append_lies _ (by rfl) _ _ 31 (by rfl) wB.heap.size 50 i0 _ 3 24 Tryz.underlying31 hHI hHz.1 hHz.2.1 hHz.2.2 (by rfl) (by decide) (.slice (some ⟨b57, 0, none⟩) 0 0) 0 [] (by simp only [puts, pz, e57]; rfl) o57 ⟨b', 0, none⟩ (m' + 1) cap' (L'.map (Value.int .i64)) (by simp only [puts, pz, e59]; rfl) (by rw [List.length_map]; exact Hl'.out) (fun j v hj => cell_later hk (HsB.out j v hj)) (ints_one L') (by omega) (by unfold maxLen; omega) (by omega) hzk W.heap.size rfl ?_
       intro g9 cap9 w9 hown9 hgrow9 _ hlt9
       have hb9 := own_grown o57 hzk hgrow9
       rw [Nat.zero_add, List.nil_append] at hown9
       refine hK.out _ _ ⟨hk.trans hb9, fun _ h => absurd (Or.inl rfl) h, fun k => by rw [upd_ne u _ (by decide)]; exact e59, fun _ _ => by rw [upd_same, Nat.zero_add]; exact hown9, fun k kn => ?_, fun _ _ h => absurd (Or.inl rfl) h, fun k => absurd (f13 (k.resolve_left (by decide))) hn, unz f71, fun k => Or.inl rfl⟩
       rw [upd_ne u _ (by decide)]
       obtain ⟨x, ex, hxl, hxc⟩ := f69 (k.resolve_left (by decide)) (fun h => kn (Or.inr h))
       have hne := fp (hd 0 (by kernel_rfl)) (k.resolve_left (by decide)) hn x ex
       rw [e57] at hne
       simp only [Value.ownBlock, ne_eq, Option.some.injEq] at hne
       exact ⟨x, ex, Nat.lt_of_lt_of_le hxl hgrow9.size, fx_kept hgrow9 hxl (fun h => hne h.symm) hxc⟩
      ·intro u L W hn hd hJ
       obtain ⟨hk, f57, f59, f60, f69, fp, fr, f71, f13⟩ := hJ
       intro K hK
       simp only [puts, pz]
       go_simp
       apply Shut.go4 (W := W) hK
       ·simp only [puts, pz]; rfl
       ·exact Below.alloc (Below.refl _ _) (Nat.le_refl _) _
       ·intro hb
        exact ⟨bstep hk hb, fun k kn => by
         rw [upd_ne u _ (by decide)]
         obtain ⟨b57, e57, o57⟩ := f57 (k.resolve_left (by decide)) (fun h => kn (Or.inr h))
         exact ⟨b57, e57, o57.alloc _⟩, unz f59, fun k kn => by rw [upd_ne u _ (by decide)]; exact (f60 (k.resolve_left (by decide)) (fun h => kn (Or.inr h))).alloc _,
         fun _ _ => by rw [upd_same]; exact ⟨_, rfl, by simp, new3⟩, fun k _ kn x hx => by
          rw [upd_same] at hx
          rw [upd_ne u _ (by decide)]
          obtain ⟨b57, e57, o57⟩ := f57 (k.resolve_left (by decide)) (fun h => kn (Or.inr h))
          have hlt := (o57.lt b57 rfl).2
          injection hx with hx _ _
          injection hx with hx
          injection hx with hx
          rw [e57]
          simp only [Value.ownBlock, ne_eq, Option.some.injEq]
          omega, fun k => by rw [upd_ne u _ (by decide)]; exact FR.later hb (fr (k.resolve_left (by decide))), unz f71, fun k => Or.inr (f13 (k.resolve_left (by decide)))⟩
      ·intro u L W hn hd hJ
       obtain ⟨hk, f57, f59, f60, f69, fp, fr, f71, f13⟩ := hJ
       have o60 := f60 (hd 3 (by kernel_rfl)) hn
       obtain ⟨x, ex, hxl, hxc⟩ := f69 (hd 12 (by kernel_rfl)) hn
       have hzk := hk.size
       intro K hK
       refine step_append_lies _ (by rfl) _ _ 31 (by rfl) wB.heap.size 50 i0 _ 3 24 Tryz.underlying31 hHI hHz.1 hHz.2.1 hHz.2.2 (by rfl) (by decide) (u 60) (m' + 1) _ (by simp only [puts, pz]; rfl) o60 ⟨x, 0, none⟩ 1 1 [.int .i64 (T0 + 10), .int .i64 X0, .int .i64 Y0] (by simp only [puts, pz, ex]; rfl) (by rfl) hxc (one3 _ _ _) (by decide) (by unfold maxLen; omega) (by omega) hzk W.heap.size rfl ?_
       intro g9 cap9 w9 hown9 hgrow9 _ hlt9
       have hb9 := own_grown o60 hzk hgrow9
       obtain ⟨so9, cp9, e9, hc9, ho9⟩ := ownI_of_row (c := 3) (M := 20000 + 10 * ((m' + 1 + 1 : Nat) : Int)) (L := L' ++ [T0 + 10, X0, Y0]) (n := m' + 1 + 1) (by have := Hl'.out; simp; omega) (tl_app Hl'.out (fun i hi => by have := HM'.out i hi; omega) (by have := HMt.out; omega)) (by rw [List.map_append]; exact hown9)
       exact hK.out _ _ ⟨hk.trans hb9, fun k kn => absurd (Or.inr (hd 3 (by kernel_rfl))) kn, unz f59, fun _ h => absurd (Or.inl rfl) h, fun _ h => absurd (Or.inl rfl) h, fun _ _ kn => absurd (Or.inr (hd 3 (by kernel_rfl))) kn, fun _ => by rw [upd_same]; exact ⟨so9, cp9, e9, hc9, ho9⟩, unz f71, fun _ => Or.inr (hd 3 (by kernel_rfl))⟩
      ·intro u L W hn hd hJ
       obtain ⟨hk, f57, f59, f60, f69, fp, fr, f71, f13⟩ := hJ
       intro K hK
       simp only [puts, pz]
       go_simp
       apply Shut.go4 (W := W) hK
       ·simp only [puts, pz]; rfl
       ·exact Below.refl _ _
       ·intro hb
        exact ⟨hk, fun k kn => by rw [upd_ne u _ (by decide)]; exact f57 (k.resolve_left (by decide)) (fun h => kn (Or.inr h)), unz f59, fun k kn => by rw [upd_ne u _ (by decide)]; exact f60 (k.resolve_left (by decide)) (fun h => kn (Or.inr h)),
         fun k kn => by rw [upd_ne u _ (by decide)]; exact f69 (k.resolve_left (by decide)) (fun h => kn (Or.inr h)), fun k0 k kn x hx => by
          rw [upd_ne u _ (by decide)] at hx ⊢
          exact fp (k0.resolve_left (by decide)) (k.resolve_left (by decide)) (fun h => kn (Or.inr h)) x hx, fun k => by rw [upd_ne u _ (by decide)]; exact fr (k.resolve_left (by decide)), fun _ => upd_same _ _ _, fun k => Or.inr (f13 (k.resolve_left (by decide)))⟩
     ·exact PuresH.nil
     ·intro u L W hJ hL
      obtain ⟨hk, _, _, _, _, _, fr, f71, _⟩ := hJ
      obtain ⟨so9, cp9, e70, hc9, ho9⟩ := fr (hL 13 (by kernel_rfl))
      have e71 := f71 (hL 14 (by kernel_rfl))
      clear hHeld fr f71
      have hcW := (bcell hk).1
      have hfW := (bcell hk).2
      have zW := hk.size
      have Ho9 := hide ho9
      clear ho9
      simp only [puts, pz, Array.replicate, e70, e71]
      refine rd1 15 none rfl (fun K hK => ?_)
      go_simp
      all_goals (try go_wp2_with fail)
      refine hK.out _ _ ?_ (fun hH2 => ?_)
      ·exact ⟨by go_simp, by go_simp, by go_simp, Below.setCell (hk.mono (by omega)) (by dsimp only; omega) _⟩
      clear hK K
      (try simp only [Act.put])
      refine wpAnyH_done (by kernel_rfl) ?_ _
      (try simp only [pz])
      obtain ⟨b9, rfl, hb9, hb9l, _⟩ := Ho9.out.blk (by omega)
      obtain ⟨wF, hF⟩ : ∃ x, x = W.setCell ⟨w1.heap.size, 0, none⟩ (.slice (some ⟨b9, 0, none⟩) (m' + 1 + 1) cp9) := ⟨_, rfl⟩
      have zF : W.heap.size = wF.heap.size := by rw [hF]; simp [World.setCell]
      have zW0 : w.heap.size < W.heap.size := by omega
      have zW1 : w1.heap.size < W.heap.size := by omega
      have r0 : wF.cell? ⟨w1.heap.size, 0, none⟩ = some (.slice (some ⟨b9, 0, none⟩) (m' + 1 + 1) cp9) := by rw [hF]; exact cell_same (cell_later hk g3)
      have r1 : wF.frozen? ⟨w1.heap.size, 0, none⟩ = false := by rw [hF]; go_simp
      have r2 : wF.cell? ⟨w.heap.size, 0, none⟩ = some (.slice none 0 0) := by rw [hF]; go_simp
      have r3 : wF.frozen? ⟨w.heap.size, 0, none⟩ = false := by rw [hF]; go_simp
      have GF := hide (show w.grownBy wF (some g) by rw [hF]; exact gr_new (gr_belowB HgB.out (hk.mono (by omega))) (by dsimp only; omega))
      have SF := hide (show Src wF g by rw [hF]; exact Src.set (by dsimp only; omega) (Src.keep hk HSB.out))
      have OF := hide (show OwnI 3 (20000 + 10 * ((m' + 1 + 1 : Nat) : Int)) wF (w.heap.size + 1) (L' ++ [T0 + 10, X0, Y0]) (m' + 1 + 1) (some ⟨b9, 0, none⟩) by rw [hF]; exact (Ho9.out.off (by omega)).mono (Int.le_refl _) (by omega))
      rw [← hF]
      clear hF hcW hfW hH2 g3 g4 g5 g6 Ho9
      go_wp2
      go_roundg (gk - 1)
      case measure => omega
      case rel => exact ⟨b9, m' + 1 + 1, cp9, _, by omega, by omega, by omega, hc9, OF, r0, r1, r2, r3, SF, GF, by omega, by omega⟩
 have c3 : (x3 == 3) = false := beq_eq_false_iff_ne.2 k3
 by_cases k4 : x3 = 4
 ·subst k4
  have wm : IntKind.i64.wrap (m : Int) = (m : Int) := IntWalk.i64_in _ (by omega)
  have hm1 : (0 : Int) ≤ (m : Int) := by omega
  have hm2 : (m : Int) < (m : Int) + 1 := by omega
  go_wp2
  simp [bodyPost, results, Tryz.results74, go_sem, *]
  exact ⟨⟨_, _, _, _, rfl, by omega, by omega, by omega, ((HO.out.set (m * 3) 1000000000 (by decide)).off (by omega)).mono (by omega) (by omega)⟩, gwz, swz⟩
 have c4 : (x3 == 4) = false := beq_eq_false_iff_ne.2 k4
 go_wp2
 simp [bodyPost, results, Tryz.results74, go_sem, *]
 exact ⟨⟨_, _, _, _, rfl, by omega, by omega, by omega, (HO.out.off (by omega)).mono (by omega) (by omega)⟩, gwz, swz⟩
end Go.Proofs.YtgcdgdnmcdffoaaGreatDoor
