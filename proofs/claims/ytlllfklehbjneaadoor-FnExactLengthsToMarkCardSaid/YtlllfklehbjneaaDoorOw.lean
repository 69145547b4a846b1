/- Rows that the call owns, over worlds. -/
import Derived.Test.YtlllfklehbjneaaDoorBm
import Derived.WalkKit
import Derived.Maps.AppendAt
namespace Go.Proofs.YtlllfklehbjneaaDoor
open Go.RowKit

theorem own_later {w wx : World} {B : Nat} {e : TypeId} {size : Nat} {v : Value} {n : Nat} {xs : List Value} (hb : Below w.heap.size w wx) (h : w.ownsRow B e size v n xs) : wx.ownsRow B e size v n xs :=
  h.kept (row := none) ⟨hb.os, hb.tape, hb.output, hb.size, fun k hk _ => hb.block k hk⟩ (by
    rcases h.2 with ⟨rfl, _⟩ | ⟨g, cap, cur, rfl, _⟩
    · exact .inl rfl
    · exact .inr (by simp [Value.ownBlock]))
theorem own_grown {w w1 : World} {B : Nat} {e : TypeId} {size : Nat} {v : Value} {n : Nat} {xs : List Value} (h : w.ownsRow B e size v n xs) (hB : B ≤ w.heap.size) (hg : w.grownBy w1 v.ownBlock) : Below B w w1 :=
  Below.grown (Below.refl _ _) hg hB fun k hk => (h.lt k hk).1
theorem below_grown {w w1 : World} {x : Obj} {B : Nat} {e : TypeId} {size : Nat} {v : Value} {n : Nat} {xs : List Value} (h : w.ownsRow B e size v n xs) (hB : B ≤ w.heap.size) (hg : (w.alloc x).grownBy w1 v.ownBlock) : Below B w w1 :=
  (Below.alloc (Below.refl _ _) hB _).trans (own_grown (h.alloc x) (by simp; omega) hg)
theorem cell_below {w wx : World} {B b o : Nat} {v : Value} (hb : Below B w wx) (h : b < B) (hc : w.cell? ⟨b, o, none⟩ = some v) : wx.cell? ⟨b, o, none⟩ = some v := ((bcell hb).1 b o h).trans hc
theorem new2 {W : World} {e : TypeId} {x y : Value} : ∀ (j : Nat) (u : Value), [x, y][j]? = some u → (W.alloc (.cells #[x, y] e)).cell? ((⟨W.heap.size, 0, none⟩ : Addr).add j) = some u := fun j u hj => by
  match j, hj with
  | 0, hj => simp at hj; subst hj; simp [Addr.add]
  | 1, hj => simp at hj; subst hj; simp [Addr.add]
theorem one2 (a b : Int) : ∀ u ∈ [Value.int .i64 a, Value.int .i64 b], u.oneCell' = true := fun u hu => by
  simp at hu; rcases hu with rfl | rfl <;> rfl
end Go.Proofs.YtlllfklehbjneaaDoor
