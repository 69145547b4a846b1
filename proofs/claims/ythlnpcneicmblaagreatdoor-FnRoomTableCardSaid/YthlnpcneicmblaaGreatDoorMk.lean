/- Walks: marks on tracks and on lists of manoeuvres; these lists compared. -/
import Derived.Test.YthlnpcneicmblaaGreatDoorMp
import Derived.Test.YthlnpcneicmblaaGreatDoorBs
import Derived.Test.YthlnpcneicmblaaGreatDoorA
import Derived.Maps.AppendAt
import Derived.Deep.DeepCutAuto
import Derived.Test.YthlnpcneicmblaaGreatDoorCo
import Derived.Laws.IdiomStrings
import Derived.Test.YthlnpcneicmblaaGreatDoorKp
import Derived.Deep.AppendLies
import Derived.Test.YthlnpcneicmblaaGreatDoorTm
import Derived.Test.YthlnpcneicmblaaGreatDoorIv
import Derived.Test.YthlnpcneicmblaaGreatDoorCd
namespace Go.Proofs.YthlnpcneicmblaaGreatDoor
open Go.RowKit

theorem grown_set {w W : World} {g j : Nat} {x : Value} (h : w.grownBy W (some g)) : w.grownBy (W.setCell ⟨g, j, none⟩ x) (some g) :=
 h.trans ⟨rfl, rfl, rfl, by simp [World.setCell], fun k _ hk => Below.heap_setCell _ _ _ k (fun e => hk (by rw [e]))⟩
theorem grown_row {w W : World} {g n c : Nat} {V : Nat → Nat → Value} {so : Option Addr} (hg : w.grownBy W (some g)) (h : ∀ b o, so = some ⟨b, o, none⟩ → b ≠ g) (r : RowAt w so n c V) : RowAt W so n c V := fun i hi => by
 obtain ⟨b, o, e, k⟩ := r i hi
 exact ⟨b, o, e, fun j hj => hg.cell (k j hj) (by simpa using h b o e)⟩
end Go.Proofs.YthlnpcneicmblaaGreatDoor
/- Walks: marks on courses and, from any number on, on tracks. -/
namespace Go.Proofs.YthlnpcneicmblaaGreatDoor
open Go.RowKit
theorem gr_below {w W : World} {g : Nat} (hb : Below w.heap.size w W) : w.grownBy W (some g) := ⟨hb.os, hb.tape, hb.output, hb.size, fun k hk _ => hb.block k hk⟩
end Go.Proofs.YthlnpcneicmblaaGreatDoor
/- Walks: rows of integers, and rows of such rows, compared, marked, held. -/
namespace Go.Proofs.YthlnpcneicmblaaGreatDoor
open Go.RowKit

/-- A row of integers by a function. -/
def v1 (V : Nat → Int) (i _j : Nat) : Value := .int .i64 (V i)
theorem RowAt.v1 {w : World} {so : Option Addr} {L : List Int} (h : RowAt w so L.length 1 (vI L)) : RowAt w so L.length 1 (v1 fun i => L[i]?.getD 0) := h
theorem mine_grown {w W : World} {h m g : Nat} (k : Mine w h m) (hg : w.grownBy W (some g)) (hn : h < w.heap.size) (hne : ¬ h = g) : Mine W h m := fun j hj => by
 obtain ⟨⟨v, e⟩, f⟩ := k j hj
 exact ⟨⟨v, (gcell hg h j hn hne).trans e⟩, (gfroz hg h j hn hne).trans f⟩
end Go.Proofs.YthlnpcneicmblaaGreatDoor
/- Rows of integers in memory of the call's own: read, kept, marked. -/
namespace Go.Proofs.YthlnpcneicmblaaGreatDoor
open Go.RowKit

/-- A list of integers in memory of the call's own, from block B on. -/
def OwZ (w : World) (B : Nat) (so : Option Addr) (L : List Int) : Prop :=
 so = none ∧ L.length = 0 ∨ ∃ g, so = some ⟨g, 0, none⟩ ∧ B ≤ g ∧ g < w.heap.size ∧ ∀ j, j < L.length → w.cell? ⟨g, j, none⟩ = some (.int .i64 (L[j]?.getD 0)) ∧ w.frozen? ⟨g, j, none⟩ = false
theorem OwZ.of {w : World} {B cp : Nat} {e : TypeId} {so : Option Addr} {L : List Int} (h : w.ownsRow B e 1 (.slice so L.length cp) L.length (L.map (Value.int .i64))) : OwZ w B so L := by
 have hlt := h.lt
 rcases hso : so with _ | a
 ·subst hso
  rcases h.2 with ⟨_, h0⟩ | ⟨g, cap, cur, hv, _⟩
  ·exact .inl ⟨rfl, h0⟩
  ·cases hv
 ·subst hso
  rcases h.2 with ⟨hv, _⟩ | ⟨g, cap, cur, hv, _⟩
  ·cases hv
  ·injection hv with e1 e2 e3
   injection e1 with e1
   subst e1
   have hg := h.lt g rfl
   refine .inr ⟨g, rfl, hg.1, hg.2, fun j hj => ⟨?_, ?_⟩⟩
   ·have := h.cells (g := g) rfl j (.int .i64 (L[j]?.getD 0)) (by rw [List.getElem?_map, List.getElem?_eq_getElem hj]; rfl)
    rwa [Addr.add_lit, Nat.zero_add] at this
   ·subst e3; exact h.frozenAt j
theorem OwZ.read {w : World} {B : Nat} {so : Option Addr} {L : List Int} (h : OwZ w B so L) : RowAt w so L.length 1 (v1 fun i => L[i]?.getD 0) := by
 rcases h with ⟨_, h0⟩ | ⟨g, rfl, _, _, h4⟩
 ·exact fun i hi => absurd hi (by omega)
 ·exact fun i hi => ⟨g, 0, rfl, fun j hj => by
   obtain rfl : j = 0 := by omega
   rw [Nat.zero_add, Nat.mul_one, Nat.add_zero]; exact (h4 i hi).1⟩
theorem OwZ.later {w W : World} {B : Nat} {so : Option Addr} {L : List Int} (h : OwZ w B so L) (hb : Below w.heap.size w W) : OwZ W B so L := by
 rcases h with h | ⟨g, h1, h2, h3, h4⟩
 ·exact .inl h
 ·exact .inr ⟨g, h1, h2, Nat.lt_of_lt_of_le h3 hb.size, fun j hj => ⟨cell_later hb (h4 j hj).1, frozen_later hb (h4 j hj).1 (h4 j hj).2⟩⟩
theorem OwZ.grown {w W : World} {B g : Nat} {so : Option Addr} {L : List Int} (h : OwZ w B so L) (hg : w.grownBy W (some g)) (hl : g < B) : OwZ W B so L := by
 rcases h with h | ⟨g', h1, h2, h3, h4⟩
 ·exact .inl h
 ·exact .inr ⟨g', h1, h2, Nat.lt_of_lt_of_le h3 hg.size, fun j hj => ⟨(gcell hg g' j h3 (by omega)).trans (h4 j hj).1, (gfroz hg g' j h3 (by omega)).trans (h4 j hj).2⟩⟩
theorem OwZ.mono {w : World} {B B' : Nat} {so : Option Addr} {L : List Int} (h : OwZ w B so L) (hB : B' ≤ B) : OwZ w B' so L := by
 rcases h with h | ⟨g, h1, h2, h3, h4⟩
 ·exact .inl h
 ·exact .inr ⟨g, h1, by omega, h3, h4⟩
theorem OwZ.mark {w : World} {B : Nat} {so : Option Addr} {L : List Int} (h : OwZ w B so L) : ∃ g, (L.length = 0 ∨ so = some ⟨g, 0, none⟩) ∧ B ≤ g ∧ Mine w g L.length := by
 rcases h with ⟨_, h0⟩ | ⟨g, h1, h2, h3, h4⟩
 ·exact ⟨B, .inl h0, Nat.le_refl _, fun j hj => absurd hj (by omega)⟩
 ·exact ⟨g, .inr h1, h2, fun j hj => ⟨⟨_, (h4 j hj).1⟩, (h4 j hj).2⟩⟩
end Go.Proofs.YthlnpcneicmblaaGreatDoor
namespace Go.Proofs.YthlnpcneicmblaaGreatDoor
open Go.RowKit

/-- The slices of a table's rows. -/
def TvS (G C : Nat → Nat) (R : Nat → List Int) (q : Nat) : List Value := (List.range q).map fun j => .slice (some ⟨G j, 0, none⟩) (R j).length (C j)
theorem TvS_len (G C : Nat → Nat) (R : Nat → List Int) (q : Nat) : (TvS G C R q).length = q := by simp [TvS]
theorem TvS_more {G C G' C' : Nat → Nat} {R : Nat → List Int} {q : Nat} (h : ∀ j, j < q → G' j = G j ∧ C' j = C j) : TvS G' C' R (q + 1) = TvS G C R q ++ [.slice (some ⟨G' q, 0, none⟩) (R q).length (C' q)] := by
 unfold TvS
 rw [List.range_succ, List.map_append]
 refine congrArg (· ++ _) (List.map_congr_left fun j hj => ?_)
 obtain ⟨h1, h2⟩ := h j (List.mem_range.1 hj)
 rw [h1, h2]
/-- A table that has been gathered row by row. -/
def To (w : World) (B : Nat) (e : TypeId) (v : Value) (q : Nat) (R : Nat → List Int) : Prop :=
 ∃ G C : Nat → Nat, w.ownsRow B e 1 v q (TvS G C R q) ∧ ∀ j, j < q → v.ownBlock ≠ some (G j) ∧ G j < w.heap.size ∧ ∀ m, m < (R j).length → w.cell? ⟨G j, m, none⟩ = some (.int .i64 ((R j)[m]?.getD 0))
theorem To.later {w W : World} {B : Nat} {e : TypeId} {v : Value} {q : Nat} {R : Nat → List Int} (h : To w B e v q R) (hb : Below w.heap.size w W) : To W B e v q R := by
 obtain ⟨G, C, h1, h2⟩ := h
 exact ⟨G, C, own_later hb h1, fun j hj => ⟨(h2 j hj).1, Nat.lt_of_lt_of_le (h2 j hj).2.1 hb.size, fun m hm => cell_later hb ((h2 j hj).2.2 m hm)⟩⟩
theorem To.nil {w : World} {B b : Nat} {e : TypeId} {R : Nat → List Int} (hb : b = w.heap.size) (hB : B ≤ b) : To (w.alloc (.cells #[] e)) B e (.slice (some ⟨b, 0, none⟩) 0 0) 0 R := by
 subst hb
 exact ⟨fun _ => 0, fun _ => 0, World.ownsRow_made (base := B) (e := e) (size := 1) w #[] 0 hB (by decide) rfl, fun j hj => absurd hj (Nat.not_lt_zero _)⟩
/-- One row more has been appended. -/
theorem To.app {w W W' : World} {B : Nat} {e : TypeId} {v : Value} {q g cap g' cap' : Nat} {R : Nat → List Int} (h : ∃ G C : Nat → Nat, w.ownsRow B e 1 v q (TvS G C R q) ∧ (∀ j, j < q → v.ownBlock ≠ some (G j) ∧ G j < w.heap.size ∧ ∀ m, m < (R j).length → w.cell? ⟨G j, m, none⟩ = some (.int .i64 ((R j)[m]?.getD 0))) ∧
 W'.ownsRow B e 1 (.slice (some ⟨g', 0, none⟩) (q + 1) cap') (q + 1) (TvS G C R q ++ [.slice (some ⟨g, 0, none⟩) (R q).length cap]))
 (hW : Below w.heap.size w W) (hg : v.ownBlock ≠ some g) (hgl : g < w.heap.size) (hgc : ∀ m, m < (R q).length → w.cell? ⟨g, m, none⟩ = some (.int .i64 ((R q)[m]?.getD 0))) (hgr : W.grownBy W' v.ownBlock) (hat : v.ownBlock = some g' ∨ g' = W.heap.size) : To W' B e (.slice (some ⟨g', 0, none⟩) (q + 1) cap') (q + 1) R := by
 obtain ⟨G, C, h1, h2, h3⟩ := h
 have hz := hW.size
 have key : ∀ b, b < w.heap.size → v.ownBlock ≠ some b → (some g' : Option Nat) ≠ some b := fun b hb hv k => by
  injection k with k
  rcases hat with hat | hat
  ·exact hv (by rw [hat, k])
  ·omega
 have cells : ∀ b m x, b < w.heap.size → v.ownBlock ≠ some b → w.cell? ⟨b, m, none⟩ = some x → W'.cell? ⟨b, m, none⟩ = some x := fun b m x hb hv hc =>
  (World.cell?_of_block (hgr.block b (by omega) (fun k => hv k.symm))).trans (cell_later hW hc)
 refine ⟨fun j => if j = q then g else G j, fun j => if j = q then cap else C j, ?_, fun j hj => ?_⟩
 ·rw [TvS_more (G := G) (C := C) (fun j hj => by have : ¬ j = q := by omega
                                                 simp only [this, ↓reduceIte, and_self])]
  simpa using h3
 ·by_cases e1 : j = q
  ·subst e1
   simp only [↓reduceIte]
   exact ⟨key g hgl hg, by have := hgr.size; omega, fun m hm => cells g m _ hgl hg (hgc m hm)⟩
  ·simp only [e1, ↓reduceIte]
   obtain ⟨a1, a2, a3⟩ := h2 j (by omega)
   exact ⟨key _ a2 a1, by have := hgr.size; omega, fun m hm => cells _ m _ a2 a1 (a3 m hm)⟩
theorem To.read {w : World} {B : Nat} {e : TypeId} {v : Value} {q : Nat} {R : Nat → List Int} (h : To w B e v q R) : ∃ so cap, v = .slice so q cap ∧ RdT w so q R := by
 obtain ⟨G, C, h1, h2⟩ := h
 have hc := fun g (hg : v.ownBlock = some g) => World.ownsRow.cells h1 hg
 obtain ⟨_, ⟨rfl, h0⟩ | ⟨g, cap, cur, rfl, hB, hg, hn, _, hsz, htk⟩⟩ := h1
 ·subst h0; exact ⟨none, 0, rfl, RdT.zero _ _ _⟩
 ·refine ⟨_, _, rfl, fun j => some ⟨G j, 0, none⟩, C, fun i hi => ⟨g, 0, rfl, fun j hj => ?_⟩, fun i hi m hm => ⟨G i, 0, rfl, fun j hj => ?_⟩⟩
  ·obtain rfl : j = 0 := by omega
   have := hc g rfl i (.slice (some ⟨G i, 0, none⟩) (R i).length (C i)) (by simp [TvS, hi])
   rw [Addr.add_lit, Nat.zero_add] at this
   rw [Nat.zero_add, Nat.mul_one, Nat.add_zero]; exact this
  ·obtain rfl : j = 0 := by omega
   rw [Nat.zero_add, Nat.mul_one, Nat.add_zero]; exact (h2 i hi).2.2 m hm
/-- What the reference's table returns. -/
def RetS (w : World) (m : Nat) (R : Nat → List Int) (c : Int) (e : Ending) (w' : World) : Prop :=
 ∃ so cp, e = .returned (.tuple #[.slice so m cp, .int .i64 c]) ∧ RdT w' so m R ∧ Below w.heap.size w w'
/-- What the program's table returns. -/
def RetT (w : World) (m : Nat) (R : Nat → List Int) (c : Int) (e : Ending) (w' : World) : Prop :=
 ∃ so cp, e = .returned (.tuple #[.slice so m cp, .int .i64 c]) ∧ OwT w' w.heap.size so m R ∧ Below w.heap.size w w'
end Go.Proofs.YthlnpcneicmblaaGreatDoor
/- Walks: lists of tracks in memory of the call's own: copied, marked; what a drawn region of a law has gathered: a course, a list of tracks, a table, a row. -/
namespace Go.Proofs.YthlnpcneicmblaaGreatDoor
open Go.RowKit

/-- The tracks' rows lie in blocks of their own, each but once. -/
def TrM (w0 w : World) (g m : Nat) (G nn : Nat → Nat) : Prop :=
 (∀ i, i < m → w.cell? ⟨g, i, none⟩ = some (.slice (some ⟨G i, 0, none⟩) (nn i) (nn i)) ∧ Mine w (G i) (nn i * 3) ∧ G i ≠ g ∧ w0.heap.size ≤ G i ∧ G i < w.heap.size) ∧ (∀ i j, i < m → j < m → i ≠ j → G i ≠ G j) ∧ w0.heap.size ≤ g ∧ g < w.heap.size
theorem TrM.later {w0 w W : World} {g m : Nat} {G nn : Nat → Nat} (hb : Below w.heap.size w W) (h : TrM w0 w g m G nn) : TrM w0 W g m G nn := by
 obtain ⟨h1, h2, h3, h4⟩ := h
 refine ⟨fun i hi => ?_, h2, h3, Nat.lt_of_lt_of_le h4 hb.size⟩
 obtain ⟨a, b, c, d, e⟩ := h1 i hi
 exact ⟨cell_later hb a, Mine.later hb b, c, d, Nat.lt_of_lt_of_le e hb.size⟩
theorem TrM.grown {w0 w W : World} {g m g9 : Nat} {G nn : Nat → Nat} (hg : w.grownBy W (some g9)) (h9 : g9 < w0.heap.size) (h : TrM w0 w g m G nn) : TrM w0 W g m G nn := by
 obtain ⟨h1, h2, h3, h4⟩ := h
 refine ⟨fun i hi => ?_, h2, h3, Nat.lt_of_lt_of_le h4 hg.size⟩
 obtain ⟨a, b, c, d, e⟩ := h1 i hi
 exact ⟨(gcell hg _ _ h4 (by omega)).trans a, mine_grown b hg e (by omega), c, d, Nat.lt_of_lt_of_le e hg.size⟩
/-! What a drawn region of a law has gathered. -/
def FCo (ax ay bx bY cx cy dx dy : Int) (n : Nat) (N : Nat → ByteArray) (X Y S Z : Nat → Int) (v : Value) (W : World) : Prop := ∃ g : Nat, v = .agg #[.int .i64 ax, .int .i64 ay, .int .i64 bx, .int .i64 bY, .int .i64 cx, .int .i64 cy, .int .i64 dx, .int .i64 dy, .slice (some ⟨g, 0, none⟩) n n] ∧ RowAt W (some ⟨g, 0, none⟩) n 5 (v5 N X Y S Z)
theorem FCo.later {ax ay bx bY cx cy dx dy : Int} {n : Nat} {N : Nat → ByteArray} {X Y S Z : Nat → Int} {v : Value} {W W' : World} (hb : Below W.heap.size W W') (h : FCo ax ay bx bY cx cy dx dy n N X Y S Z v W) : FCo ax ay bx bY cx cy dx dy n N X Y S Z v W' := by
 obtain ⟨g, e, h1⟩ := h
 exact ⟨g, e, RowAt.later hb h1⟩
def FTs (m : Nat) (nn : Nat → Nat) (T U V : Nat → Nat → Int) (v : Value) (W : World) : Prop := ∃ g : Nat, ∃ G : Nat → Nat, v = .slice (some ⟨g, 0, none⟩) m m ∧ Trs W (some ⟨g, 0, none⟩) m (fun i => some ⟨G i, 0, none⟩) nn nn T U V
theorem FTs.later {m : Nat} {nn : Nat → Nat} {T U V : Nat → Nat → Int} {v : Value} {W W' : World} (hb : Below W.heap.size W W') (h : FTs m nn T U V v W) : FTs m nn T U V v W' := by
 obtain ⟨g, G, e, h1⟩ := h
 exact ⟨g, G, e, Trs.later hb h1⟩
def FRs (m : Nat) (R : Nat → List Int) (cd : Int) (v : Value) (W : World) : Prop := ∃ (so : Option Addr) (cp : Nat), v = .tuple #[.slice so m cp, .int .i64 cd] ∧ RdT W so m R
theorem FRs.later {m : Nat} {R : Nat → List Int} {cd : Int} {v : Value} {W W' : World} (hb : Below W.heap.size W W') (h : FRs m R cd v W) : FRs m R cd v W' := by
 obtain ⟨so, cp, e, h1⟩ := h
 exact ⟨so, cp, e, h1.later hb⟩
def FRl (m : Nat) (R : Nat → List Int) (v : Value) (W : World) : Prop := ∃ (so : Option Addr) (cp : Nat), v = .slice so m cp ∧ RdT W so m R
theorem FRl.later {m : Nat} {R : Nat → List Int} {v : Value} {W W' : World} (hb : Below W.heap.size W W') (h : FRl m R v W) : FRl m R v W' := by
 obtain ⟨so, cp, e, h1⟩ := h
 exact ⟨so, cp, e, h1.later hb⟩
def FIs (L : List Int) (cd : Int) (v : Value) (W : World) : Prop := ∃ (so : Option Addr) (cp : Nat), v = .tuple #[.slice so L.length cp, .int .i64 cd] ∧ RowAt W so L.length 1 (v1 fun i => L[i]?.getD 0)
theorem FIs.later {L : List Int} {cd : Int} {v : Value} {W W' : World} (hb : Below W.heap.size W W') (h : FIs L cd v W) : FIs L cd v W' := by
 obtain ⟨so, cp, e, h1⟩ := h
 exact ⟨so, cp, e, RowAt.later hb h1⟩
def FIl (L : List Int) (v : Value) (W : World) : Prop := ∃ (so : Option Addr) (cp : Nat), v = .slice so L.length cp ∧ RowAt W so L.length 1 (v1 fun i => L[i]?.getD 0)
theorem FIl.later {L : List Int} {v : Value} {W W' : World} (hb : Below W.heap.size W W') (h : FIl L v W) : FIl L v W' := by
 obtain ⟨so, cp, e, h1⟩ := h
 exact ⟨so, cp, e, RowAt.later hb h1⟩
end Go.Proofs.YthlnpcneicmblaaGreatDoor
