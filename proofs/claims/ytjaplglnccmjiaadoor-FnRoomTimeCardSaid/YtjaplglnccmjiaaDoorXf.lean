/- Walks: the first crossing forward at or behind a time, of both. -/
import Derived.Test.YtjaplglnccmjiaaDoorXc
namespace Go.Proofs.YtjaplglnccmjiaaDoor
open Go.RowKit

theorem own_cx {w : World} {B : Nat} {e : TypeId} {g cp m : Nat} {ax ay bx bY : Int} {T U V : Nat → Int} {L : List Nat} (h : w.ownsRow B e 5 (.slice (some ⟨g, 0, none⟩) m cp) m (cxCs ax ay bx bY T U V L)) (i : Nat) (hi : i < L.length) :
    w.cell? ⟨g, i * 5, none⟩ = some (.int .i64 (cxT ax ay bx bY T U V (L[i]?.getD 0))) ∧ w.cell? ⟨g, i * 5 + 1, none⟩ = some (.int .i64 ((L[i]?.getD 0 : Nat) : Int)) ∧ w.cell? ⟨g, i * 5 + 2, none⟩ = some (.int .i64 (wyL ax ay bx bY U V (L[i]?.getD 0))) ∧ w.cell? ⟨g, i * 5 + 3, none⟩ = some (.int .i64 (cxN ax ay bx bY U V (L[i]?.getD 0))) ∧ w.cell? ⟨g, i * 5 + 4, none⟩ = some (.int .i64 (cxD ax ay bx bY U V (L[i]?.getD 0))) := by
  have k : ∀ j v, j < 5 → (cxC ax ay bx bY T U V (L[i]?.getD 0))[j]? = some v → w.cell? ⟨g, i * 5 + j, none⟩ = some v := fun j v hj hv => by
    have := h.cells (g := g) rfl (i * 5 + j) v ((cxCs_at ax ay bx bY T U V L i j hi hj).trans hv)
    rwa [Addr.add_lit, Nat.zero_add] at this
  exact ⟨k 0 _ (by decide) rfl, k 1 _ (by decide) rfl, k 2 _ (by decide) rfl, k 3 _ (by decide) rfl, k 4 _ (by decide) rfl⟩
theorem fcT_drop (ax ay bx bY : Int) (T U V : Nat → Int) (fr : Int) (L : List Nat) (i : Nat) (hi : i < L.length) :
    fcT ax ay bx bY T U V fr (L.drop i) = if wyL ax ay bx bY U V (L[i]?.getD 0) = 1 ∧ fr ≤ cxT ax ay bx bY T U V (L[i]?.getD 0) then cxT ax ay bx bY T U V (L[i]?.getD 0) else fcT ax ay bx bY T U V fr (L.drop (i + 1)) := by
  rw [List.drop_eq_getElem_cons hi, List.getElem?_eq_getElem hi]
  rfl
theorem fcT_end (ax ay bx bY : Int) (T U V : Nat → Int) (fr : Int) (L : List Nat) : fcT ax ay bx bY T U V fr (L.drop L.length) = -1 := by rw [List.drop_length]; rfl
/-- What the first crossing is answered with. -/
def RetF (w : World) (f : Int) (e : Ending) (w' : World) : Prop := (∃ x1 x2 x3 x4 x5 : Int, e = .returned (.tuple #[.agg #[.int .i64 x1, .int .i64 x2, .int .i64 x3, .int .i64 x4, .int .i64 x5], .bool (decide (0 ≤ f))]) ∧ (0 ≤ f → x1 = f)) ∧ Below w.heap.size w w'
end Go.Proofs.YtjaplglnccmjiaaDoor
