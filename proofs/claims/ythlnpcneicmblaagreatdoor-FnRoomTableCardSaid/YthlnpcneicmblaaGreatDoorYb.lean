/- Plain: marks in memory of the call's own; what a draw of a course returns. -/
import Derived.Test.YthlnpcneicmblaaGreatDoorYa
import Derived.Test.YthlnpcneicmblaaGreatDoorCo
import Derived.Test.YthlnpcneicmblaaGreatDoorDm
namespace Go.Proofs.YthlnpcneicmblaaGreatDoor
open Go.RowKit

/-- A row of n marks in memory of the call's own: from block B on. -/
def OwnM (w : World) (B : Nat) (N : Nat → ByteArray) (X Y S Z : Nat → Int) (n : Nat) (so : Option Addr) : Prop :=
 (so = none ∧ n = 0) ∨ ∃ g, so = some ⟨g, 0, none⟩ ∧ B ≤ g ∧ g < w.heap.size ∧ ∀ i, i < n → ∀ j, j < 5 → w.cell? ⟨g, i * 5 + j, none⟩ = some (v5 N X Y S Z i j) ∧ w.frozen? ⟨g, i * 5 + j, none⟩ = false
theorem OwnM.grown {w W : World} {B g : Nat} {N : Nat → ByteArray} {X Y S Z : Nat → Int} {n : Nat} {so : Option Addr} (h : OwnM w B N X Y S Z n so) (hg : w.grownBy W (some g)) (hl : g < B) : OwnM W B N X Y S Z n so := by
 rcases h with h | ⟨g', rfl, h3, h4, h5⟩
 ·exact .inl h
 ·exact .inr ⟨g', rfl, h3, Nat.lt_of_lt_of_le h4 hg.size, fun i hi j hj => ⟨(gcell hg g' _ h4 (by omega)).trans (h5 i hi j hj).1, (gfroz hg g' _ h4 (by omega)).trans (h5 i hi j hj).2⟩⟩
theorem OwnM.later {w W : World} {B : Nat} {N : Nat → ByteArray} {X Y S Z : Nat → Int} {n : Nat} {so : Option Addr} (h : OwnM w B N X Y S Z n so) (hb : Below w.heap.size w W) : OwnM W B N X Y S Z n so := by
 rcases h with h | ⟨g', rfl, h3, h4, h5⟩
 ·exact .inl h
 ·exact .inr ⟨g', rfl, h3, Nat.lt_of_lt_of_le h4 hb.size, fun i hi j hj => ⟨((bcell hb).1 g' _ h4).trans (h5 i hi j hj).1, ((bcell hb).2 g' _ h4).trans (h5 i hi j hj).2⟩⟩
theorem OwnM.mono {w : World} {B B' : Nat} {N : Nat → ByteArray} {X Y S Z : Nat → Int} {n : Nat} {so : Option Addr} (h : OwnM w B N X Y S Z n so) (hB : B' ≤ B) : OwnM w B' N X Y S Z n so := by
 rcases h with h | ⟨g', rfl, h3, h4⟩
 ·exact .inl h
 ·exact .inr ⟨g', rfl, by omega, h4⟩
theorem OwnM.far {w : World} {B : Nat} {N : Nat → ByteArray} {X Y S Z : Nat → Int} {n : Nat} {so : Option Addr} {b j : Nat} {x : Value} (h : OwnM w B N X Y S Z n so) (hb : b < B) : OwnM (w.setCell ⟨b, j, none⟩ x) B N X Y S Z n so := by
 rcases h with h | ⟨g', rfl, h3, h4, h5⟩
 ·exact .inl h
 ·exact .inr ⟨g', rfl, h3, by simpa [World.setCell] using h4, fun i hi j hj => ⟨cell_set (h5 i hi j hj).1 (by simp; omega), by rw [World.frozen?_setCell]; exact (h5 i hi j hj).2⟩⟩
theorem OwnM.off {w : World} {B : Nat} {N : Nat → ByteArray} {X Y S Z : Nat → Int} {n b : Nat} {b' j : Nat} {x : Value} (h : OwnM w B N X Y S Z n (some ⟨b, 0, none⟩)) (hb : b' ≠ b) : OwnM (w.setCell ⟨b', j, none⟩ x) B N X Y S Z n (some ⟨b, 0, none⟩) := by
 rcases h with ⟨h, _⟩ | ⟨g', e, h3, h4, h5⟩
 ·cases h
 ·injection e with e; injection e with e
  subst e
  exact .inr ⟨b, rfl, h3, by simpa [World.setCell] using h4, fun i hi j hj => ⟨cell_set (h5 i hi j hj).1 (by simp; omega), by rw [World.frozen?_setCell]; exact (h5 i hi j hj).2⟩⟩
theorem OwnM.blk {w : World} {B : Nat} {N : Nat → ByteArray} {X Y S Z : Nat → Int} {n : Nat} {so : Option Addr} (h : OwnM w B N X Y S Z n so) (hn : 0 < n) : ∃ b, so = some ⟨b, 0, none⟩ ∧ B ≤ b ∧ b < w.heap.size ∧ ∀ i, i < n → ∀ j, j < 5 → w.cell? ⟨b, i * 5 + j, none⟩ = some (v5 N X Y S Z i j) ∧ w.frozen? ⟨b, i * 5 + j, none⟩ = false := by
 rcases h with ⟨_, h⟩ | h
 ·omega
 ·exact h
theorem OwnM.row {w : World} {B : Nat} {N : Nat → ByteArray} {X Y S Z : Nat → Int} {n : Nat} {so : Option Addr} (h : OwnM w B N X Y S Z n so) : RowAt w so n 5 (v5 N X Y S Z) := by
 rcases h with ⟨_, h⟩ | ⟨g', rfl, h3, h4, h5⟩
 ·exact fun i hi => absurd hi (by omega)
 ·exact own_row fun i hi j hj => (h5 i hi j hj).1
/-- Marks as lists of cells. -/
def mkW (N : Nat → ByteArray) (X Y S Z : Nat → Int) (i : Nat) : List Value := [.string (N i), .int .i64 (X i), .int .i64 (Y i), .int .i64 (S i), .int .i64 (Z i)]
def mkWs (N : Nat → ByteArray) (X Y S Z : Nat → Int) : Nat → List Value
 | 0 => []
 | n + 1 => mkWs N X Y S Z n ++ mkW N X Y S Z n
theorem mkWs_len (N : Nat → ByteArray) (X Y S Z : Nat → Int) (n : Nat) : (mkWs N X Y S Z n).length = n * 5 := by
 induction n with
 | zero => rfl
 | succ n ih => unfold mkWs; rw [List.length_append, ih]; simp [mkW]; omega
theorem mkWs_at (N : Nat → ByteArray) (X Y S Z : Nat → Int) (n : Nat) : ∀ i j, i < n → j < 5 → (mkWs N X Y S Z n)[i * 5 + j]? = some (v5 N X Y S Z i j) := by
 induction n with
 | zero => intro i j hi; omega
 | succ n ih =>
  intro i j hi hj
  unfold mkWs
  by_cases e : i < n
  ·rw [List.getElem?_append_left (by rw [mkWs_len]; omega)]; exact ih i j e hj
  ·obtain rfl : i = n := by omega
   rw [List.getElem?_append_right (by rw [mkWs_len]; omega), mkWs_len, show i * 5 + j - i * 5 = j by omega]
   rcases (by omega : j = 0 ∨ j = 1 ∨ j = 2 ∨ j = 3 ∨ j = 4) with rfl | rfl | rfl | rfl | rfl <;> simp [mkW, v5]
theorem mkWs_one (N : Nat → ByteArray) (X Y S Z : Nat → Int) (n : Nat) : ∀ u ∈ mkWs N X Y S Z n, u.oneCell' = true := by
 induction n with
 | zero => intro u hu; cases hu
 | succ n ih =>
  intro u hu
  unfold mkWs at hu
  rcases List.mem_append.1 hu with h | h
  ·exact ih u h
  ·simp [mkW] at h
   rcases h with rfl | rfl | rfl | rfl | rfl <;> rfl
theorem oneM5 (s : ByteArray) (a b c d : Int) : ∀ u ∈ [Value.string s, Value.int .i64 a, Value.int .i64 b, Value.int .i64 c, Value.int .i64 d], u.oneCell' = true := fun u hu => by
 simp at hu; rcases hu with rfl | rfl | rfl | rfl | rfl <;> rfl
/-- A row that is the call's own, as marks. -/
theorem ownM_of_row {w : World} {B : Nat} {e : TypeId} {v : Value} {N : Nat → ByteArray} {X Y S Z : Nat → Int} {n : Nat} (h : w.ownsRow B e 5 v n (mkWs N X Y S Z n)) : ∃ so cap, v = .slice so n cap ∧ n ≤ cap ∧ OwnM w B N X Y S Z n so := by
 have hc := fun g (hg : v.ownBlock = some g) => World.ownsRow.cells h hg
 obtain ⟨_, ⟨rfl, h0⟩ | ⟨g, cap, cur, rfl, hB, hg, hn, _, hsz, htk⟩⟩ := h
 ·exact ⟨none, 0, by rw [h0], by omega, .inl ⟨rfl, h0⟩⟩
 ·have hgl : g < w.heap.size := by
   rcases Nat.lt_or_ge g w.heap.size with h | h
   ·exact h
   ·rw [Array.getElem?_eq_none h] at hg; exact absurd hg (by simp)
  refine ⟨some ⟨g, 0, none⟩, cap, rfl, hn, .inr ⟨g, rfl, hB, hgl, fun i hi j hj => ⟨?_, ?_⟩⟩⟩
  ·have := hc g rfl (i * 5 + j) _ (mkWs_at N X Y S Z n i j hi hj)
   rwa [Addr.add_lit, Nat.zero_add] at this
  ·simp [World.frozen?, hg]
/-- The row's cells, as 'append' asks for them. -/
theorem OwnM.cells {w : World} {B g : Nat} {N : Nat → ByteArray} {X Y S Z : Nat → Int} {n : Nat} (h : OwnM w B N X Y S Z n (some ⟨g, 0, none⟩)) : ∀ (q : Nat) (u : Value), (mkWs N X Y S Z n)[q]? = some u → w.cell? ((⟨g, 0, none⟩ : Addr).add q) = some u := fun q u hq => by
 rcases h with ⟨h, _⟩ | ⟨g', e, h3, h4, h5⟩
 ·cases h
 ·injection e with e; injection e with e
  subst e
  have hl : q < n * 5 := by
   rcases Nat.lt_or_ge q (n * 5) with k | k
   ·exact k
   ·rw [List.getElem?_eq_none (by rw [mkWs_len]; exact k)] at hq; cases hq
  have hi : q / 5 < n := by omega
  have hd := Nat.div_add_mod q 5
  have k := (h5 (q / 5) hi (q % 5) (Nat.mod_lt _ (by decide))).1
  have k2 := mkWs_at N X Y S Z n (q / 5) (q % 5) hi (Nat.mod_lt _ (by decide))
  rw [show q / 5 * 5 + q % 5 = q by omega] at k k2
  rw [hq] at k2
  rw [Addr.add_lit, Nat.zero_add, k, k2]
/-- A function with one more value. -/
def more {α : Type} (F : Nat → α) (n : Nat) (x : α) (i : Nat) : α := if i = n then x else F i
theorem mkWs_congr {N N' : Nat → ByteArray} {X Y S Z X' Y' S' Z' : Nat → Int} {n : Nat} (h : ∀ i, i < n → N i = N' i ∧ X i = X' i ∧ Y i = Y' i ∧ S i = S' i ∧ Z i = Z' i) : mkWs N X Y S Z n = mkWs N' X' Y' S' Z' n := by
 induction n with
 | zero => rfl
 | succ n ih =>
  unfold mkWs
  rw [ih (fun i hi => h i (by omega))]
  obtain ⟨a, b, c, d, e⟩ := h n (by omega)
  unfold mkW
  rw [a, b, c, d, e]
theorem more_lt {α : Type} (F : Nat → α) {n i : Nat} (x : α) (h : i < n) : more F n x i = F i := by unfold more; rw [if_neg (by omega)]
theorem more_at {α : Type} (F : Nat → α) (n : Nat) (x : α) : more F n x n = x := by unfold more; rw [if_pos rfl]
theorem mkWs_more (N : Nat → ByteArray) (X Y S Z : Nat → Int) (n : Nat) (s : ByteArray) (a b c d : Int) : mkWs N X Y S Z n ++ [.string s, .int .i64 a, .int .i64 b, .int .i64 c, .int .i64 d] = mkWs (more N n s) (more X n a) (more Y n b) (more S n c) (more Z n d) (n + 1) := by
 show _ = mkWs (more N n s) (more X n a) (more Y n b) (more S n c) (more Z n d) n ++ mkW (more N n s) (more X n a) (more Y n b) (more S n c) (more Z n d) n
 rw [mkWs_congr (N' := more N n s) (X' := more X n a) (Y' := more Y n b) (S' := more S n c) (Z' := more Z n d) (fun i hi => ⟨(more_lt _ _ hi).symm, (more_lt _ _ hi).symm, (more_lt _ _ hi).symm, (more_lt _ _ hi).symm, (more_lt _ _ hi).symm⟩)]
 unfold mkW
 rw [more_at, more_at, more_at, more_at, more_at]
/-- What a draw of a course returns. -/
def CoC (lo hi : Nat) (w : World) (g : Nat) (e : Ending) (w' : World) : Prop :=
 (∃ (ax ay bx bY cx cy dx dy : Int) (so : Option Addr) (n cap : Nat) (N : Nat → ByteArray) (X Y S Z : Nat → Int), e = .returned (.agg #[.int .i64 ax, .int .i64 ay, .int .i64 bx, .int .i64 bY, .int .i64 cx, .int .i64 cy, .int .i64 dx, .int .i64 dy, .slice so n cap]) ∧ lo ≤ n ∧ n ≤ hi ∧ n ≤ cap ∧ isSg ax ay bx bY = true ∧ OwnM w' w.heap.size N X Y S Z n so) ∧ w.grownBy w' (some g) ∧ Src w' g
end Go.Proofs.YthlnpcneicmblaaGreatDoor
