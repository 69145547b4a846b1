/- The invariant of a drawn region that writes to no elder block: what it has gathered. -/
import Derived.Test.YtlllfklehbjneaaDoorIv
import Derived.Test.YtlllfklehbjneaaDoorBn
namespace Go.Proofs.YtlllfklehbjneaaDoor
open Go.RowKit

def FBoxB (w : World) (k : Nat) (v : Value) (W : World) : Prop := ∃ b, v = .pointer (some ⟨b, 0, none⟩) ∧ w.heap.size ≤ b ∧ b < W.heap.size ∧ ∀ j, j < k → (∃ z, W.cell? ⟨b, j, none⟩ = some z) ∧ W.frozen? ⟨b, j, none⟩ = false
theorem FBoxB.later {k : Nat} {w : World} {v : Value} {W W' : World} (hb : Below W.heap.size W W') (h : FBoxB w k v W) : FBoxB w k v W' := by
  obtain ⟨b, e, h2, h3, h4⟩ := h
  refine ⟨b, e, h2, Nat.lt_of_lt_of_le h3 hb.size, fun j hj => ?_⟩
  obtain ⟨⟨z, hz⟩, hf⟩ := h4 j hj
  exact ⟨⟨z, ((bcell hb).1 b j h3).trans hz⟩, ((bcell hb).2 b j h3).trans hf⟩
theorem FBoxB.new {k : Nat} {w W : World} (hw : w.heap.size ≤ W.heap.size) (c : Array Value) (t : TypeId) (hc : c.size = k) : FBoxB w k (.pointer (some ⟨W.heap.size, 0, none⟩)) (W.alloc (.cells c t)) :=
  ⟨W.heap.size, rfl, hw, by simp, fun j hj => ⟨⟨c[j]'(by omega), by rw [World.cell?_alloc_new]; exact Array.getElem?_eq_getElem (by omega)⟩, by rw [World.frozen?_alloc_new]⟩⟩
theorem FBoxB.ne_new {k : Nat} {w W : World} {v : Value} (h : FBoxB w k v W) : Value.pointer (some ⟨W.heap.size, 0, none⟩) ≠ v := by
  obtain ⟨b, e, _, h3, _⟩ := h
  rw [e]
  intro k
  have k2 := Option.some.inj (Value.pointer.inj k)
  have k3 := congrArg Addr.block k2
  simp only at k3
  omega
theorem Shut.go4 {K' : Act → World → Prop} {Jp : Value → World → Prop} {X : Value → Act} {W W' : World} {a' : Act} {v : Value} (hK : Shut (∀ v W', Jp v W' → K' (X v) W')) (e : X v = a')
    (hb : Below W.heap.size W W') (h : Below W.heap.size W W' → Jp v W') : K' a' W' := e ▸ hK.out v W' (h hb)
theorem cell_same_ex {w : World} {p : Addr} {x : Value} (h : ∃ v, w.cell? p = some v) : (w.setCell p x).cell? p = some x := by
  obtain ⟨v, h⟩ := h
  exact cell_same h
theorem cell_off_ex {w : World} {p a : Addr} {x : Value} (h : ∃ v, w.cell? a = some v) (n : p.block ≠ a.block ∨ p.off ≠ a.off) : ∃ v, (w.setCell p x).cell? a = some v := by
  obtain ⟨v, h⟩ := h
  exact ⟨v, cell_off h n⟩
end Go.Proofs.YtlllfklehbjneaaDoor
