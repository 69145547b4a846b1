/- Walks: marks on tracks and on lists of manoeuvres; these lists compared. -/
import Derived.Test.YtnmnibpcklcmgaaMp
import Derived.Test.YtnmnibpcklcmgaaBm
import Derived.Test.YtnmnibpcklcmgaaA
import Derived.Maps.AppendAt
import Derived.Deep.DeepCutAuto
namespace Go.Proofs.Ytnmnibpcklcmgaa
open Go.RowKit

theorem grown_set {w W : World} {g j : Nat} {x : Value} (h : w.grownBy W (some g)) : w.grownBy (W.setCell ⟨g, j, none⟩ x) (some g) :=
  h.trans ⟨rfl, rfl, rfl, by simp [World.setCell], fun k _ hk => Below.heap_setCell _ _ _ k (fun e => hk (by rw [e]))⟩
theorem grown_row {w W : World} {g n c : Nat} {V : Nat → Nat → Value} {so : Option Addr} (hg : w.grownBy W (some g)) (h : ∀ b o, so = some ⟨b, o, none⟩ → b ≠ g) (r : RowAt w so n c V) : RowAt W so n c V := fun i hi => by
  obtain ⟨b, o, e, k⟩ := r i hi
  exact ⟨b, o, e, fun j hj => hg.cell (k j hj) (by simpa using h b o e)⟩
end Go.Proofs.Ytnmnibpcklcmgaa
