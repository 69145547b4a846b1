/- Plain: whether a boat is turning at a time. -/
import Derived.Test.YtlllfklehbjneaaDoorMp
namespace Go.Proofs.YtlllfklehbjneaaDoor
open Go.RowKit

/-- One of the first k manoeuvres is within the span. -/
def turB (T : Nat → Int) (t sp : Int) (L : List (Int × Int)) : Nat → Bool
  | 0 => false
  | k + 1 => turB T t sp L k || inB (T (LX L k).toNat - t) (-sp) sp
theorem turB_yes {T : Nat → Int} {t sp : Int} {L : List (Int × Int)} {k j : Nat} (hk : k < L.length) (hj : LX L k = (j : Int)) (h : inB (T j - t) (-sp) sp = true) : turB T t sp L L.length = true := by
  have h1 : turB T t sp L (k + 1) = true := by rw [turB, hj, Int.toNat_natCast, h, Bool.or_true]
  have h2 : ∀ m, turB T t sp L (k + 1 + m) = true := fun m => by
    induction m with
    | zero => exact h1
    | succ m ih => rw [← Nat.add_assoc, turB, ih, Bool.true_or]
  have := h2 (L.length - (k + 1))
  rwa [show k + 1 + (L.length - (k + 1)) = L.length by omega] at this
theorem turB_no {T : Nat → Int} {t sp : Int} {L : List (Int × Int)} {k j : Nat} (hj : LX L k = (j : Int)) (h0 : turB T t sp L k = false) (h : inB (T j - t) (-sp) sp = false) : turB T t sp L (k + 1) = false := by
  rw [turB, hj, Int.toNat_natCast, h, h0]; rfl
def tuB (wx wy : Int) (n : Nat) (T X Y : Nat → Int) (t sp : Int) : Bool :=
  selB (isWd wx wy && (isTr n T X Y && (inB t (T 0) (T (n - 1)) && inB sp 0 60000))) (turB T t sp (mans wx wy X Y (n - 2)) (mans wx wy X Y (n - 2)).length) false
def tuC (wx wy : Int) (n : Nat) (T X Y : Nat → Int) (t sp : Int) : Int := sel (isWd wx wy) (sel (isTr n T X Y) (sel (inB t (T 0) (T (n - 1))) (sel (inB sp 0 60000) 0 2) 2) 1) 1
theorem abs_inB (d sp : Int) : decide (absI d ≤ sp) = inB d (-sp) sp := by
  unfold inB absI
  rw [decide_eq_decide]
  first | omega | (split <;> omega)
end Go.Proofs.YtlllfklehbjneaaDoor
