/- Plain: a table of integers that is gathered row by row; what a table returns. -/
import Derived.Test.YtlhllidkkjledaaGreatDoorKp
import Derived.Deep.AppendLies
namespace Go.Proofs.YtlhllidkkjledaaGreatDoor
open Go.RowKit

/-- The slices of a table's rows. -/
def TvS (G C : Nat → Nat) (R : Nat → List Int) (q : Nat) : List Value := (List.range q).map fun j => .slice (some ⟨G j, 0, none⟩) (R j).length (C j)
theorem TvS_len (G C : Nat → Nat) (R : Nat → List Int) (q : Nat) : (TvS G C R q).length = q := by simp [TvS]
theorem TvS_more {G C G' C' : Nat → Nat} {R : Nat → List Int} {q : Nat} (h : ∀ j, j < q → G' j = G j ∧ C' j = C j) : TvS G' C' R (q + 1) = TvS G C R q ++ [.slice (some ⟨G' q, 0, none⟩) (R q).length (C' q)] := by
  unfold TvS
  rw [List.range_succ, List.map_append]
  refine congrArg (· ++ _) (List.map_congr_left fun j hj => ?_)
  obtain ⟨h1, h2⟩ := h j (List.mem_range.1 hj)
  rw [h1, h2]
/-- A table that has been gathered row by row. -/
def To (w : World) (B : Nat) (e : TypeId) (v : Value) (q : Nat) (R : Nat → List Int) : Prop :=
  ∃ G C : Nat → Nat, w.ownsRow B e 1 v q (TvS G C R q) ∧ ∀ j, j < q → v.ownBlock ≠ some (G j) ∧ G j < w.heap.size ∧ ∀ m, m < (R j).length → w.cell? ⟨G j, m, none⟩ = some (.int .i64 ((R j)[m]?.getD 0))
theorem To.later {w W : World} {B : Nat} {e : TypeId} {v : Value} {q : Nat} {R : Nat → List Int} (h : To w B e v q R) (hb : Below w.heap.size w W) : To W B e v q R := by
  obtain ⟨G, C, h1, h2⟩ := h
  exact ⟨G, C, own_later hb h1, fun j hj => ⟨(h2 j hj).1, Nat.lt_of_lt_of_le (h2 j hj).2.1 hb.size, fun m hm => cell_later hb ((h2 j hj).2.2 m hm)⟩⟩
theorem To.nil {w : World} {B b : Nat} {e : TypeId} {R : Nat → List Int} (hb : b = w.heap.size) (hB : B ≤ b) : To (w.alloc (.cells #[] e)) B e (.slice (some ⟨b, 0, none⟩) 0 0) 0 R := by
  subst hb
  exact ⟨fun _ => 0, fun _ => 0, World.ownsRow_made (base := B) (e := e) (size := 1) w #[] 0 hB (by decide) rfl, fun j hj => absurd hj (Nat.not_lt_zero _)⟩
/-- One row more has been appended. -/
theorem To.app {w W W' : World} {B : Nat} {e : TypeId} {v : Value} {q g cap g' cap' : Nat} {R : Nat → List Int} (h : ∃ G C : Nat → Nat, w.ownsRow B e 1 v q (TvS G C R q) ∧ (∀ j, j < q → v.ownBlock ≠ some (G j) ∧ G j < w.heap.size ∧ ∀ m, m < (R j).length → w.cell? ⟨G j, m, none⟩ = some (.int .i64 ((R j)[m]?.getD 0))) ∧
      W'.ownsRow B e 1 (.slice (some ⟨g', 0, none⟩) (q + 1) cap') (q + 1) (TvS G C R q ++ [.slice (some ⟨g, 0, none⟩) (R q).length cap]))
    (hW : Below w.heap.size w W) (hg : v.ownBlock ≠ some g) (hgl : g < w.heap.size) (hgc : ∀ m, m < (R q).length → w.cell? ⟨g, m, none⟩ = some (.int .i64 ((R q)[m]?.getD 0))) (hgr : W.grownBy W' v.ownBlock) (hat : v.ownBlock = some g' ∨ g' = W.heap.size) : To W' B e (.slice (some ⟨g', 0, none⟩) (q + 1) cap') (q + 1) R := by
  obtain ⟨G, C, h1, h2, h3⟩ := h
  have hz := hW.size
  have key : ∀ b, b < w.heap.size → v.ownBlock ≠ some b → (some g' : Option Nat) ≠ some b := fun b hb hv k => by
    injection k with k
    rcases hat with hat | hat
    · exact hv (by rw [hat, k])
    · omega
  have cells : ∀ b m x, b < w.heap.size → v.ownBlock ≠ some b → w.cell? ⟨b, m, none⟩ = some x → W'.cell? ⟨b, m, none⟩ = some x := fun b m x hb hv hc =>
    (World.cell?_of_block (hgr.block b (by omega) (fun k => hv k.symm))).trans (cell_later hW hc)
  refine ⟨fun j => if j = q then g else G j, fun j => if j = q then cap else C j, ?_, fun j hj => ?_⟩
  · rw [TvS_more (G := G) (C := C) (fun j hj => by have : ¬ j = q := by omega
                                                   simp only [this, ↓reduceIte, and_self])]
    simpa using h3
  · by_cases e1 : j = q
    · subst e1
      simp only [↓reduceIte]
      exact ⟨key g hgl hg, by have := hgr.size; omega, fun m hm => cells g m _ hgl hg (hgc m hm)⟩
    · simp only [e1, ↓reduceIte]
      obtain ⟨a1, a2, a3⟩ := h2 j (by omega)
      exact ⟨key _ a2 a1, by have := hgr.size; omega, fun m hm => cells _ m _ a2 a1 (a3 m hm)⟩
theorem To.read {w : World} {B : Nat} {e : TypeId} {v : Value} {q : Nat} {R : Nat → List Int} (h : To w B e v q R) : ∃ so cap, v = .slice so q cap ∧ RdT w so q R := by
  obtain ⟨G, C, h1, h2⟩ := h
  have hc := fun g (hg : v.ownBlock = some g) => World.ownsRow.cells h1 hg
  obtain ⟨_, ⟨rfl, h0⟩ | ⟨g, cap, cur, rfl, hB, hg, hn, _, hsz, htk⟩⟩ := h1
  · subst h0; exact ⟨none, 0, rfl, RdT.zero _ _ _⟩
  · refine ⟨_, _, rfl, fun j => some ⟨G j, 0, none⟩, C, fun i hi => ⟨g, 0, rfl, fun j hj => ?_⟩, fun i hi m hm => ⟨G i, 0, rfl, fun j hj => ?_⟩⟩
    · obtain rfl : j = 0 := by omega
      have := hc g rfl i (.slice (some ⟨G i, 0, none⟩) (R i).length (C i)) (by simp [TvS, hi])
      rw [Addr.add_lit, Nat.zero_add] at this
      rw [Nat.zero_add, Nat.mul_one, Nat.add_zero]; exact this
    · obtain rfl : j = 0 := by omega
      rw [Nat.zero_add, Nat.mul_one, Nat.add_zero]; exact (h2 i hi).2.2 m hm
/-- What the reference's table returns. -/
def RetS (w : World) (m : Nat) (R : Nat → List Int) (c : Int) (e : Ending) (w' : World) : Prop :=
  ∃ so cp, e = .returned (.tuple #[.slice so m cp, .int .i64 c]) ∧ RdT w' so m R ∧ Below w.heap.size w w'
/-- What the program's table returns. -/
def RetT (w : World) (m : Nat) (R : Nat → List Int) (c : Int) (e : Ending) (w' : World) : Prop :=
  ∃ so cp, e = .returned (.tuple #[.slice so m cp, .int .i64 c]) ∧ OwT w' w.heap.size so m R ∧ Below w.heap.size w w'
end Go.Proofs.YtlhllidkkjledaaGreatDoor
