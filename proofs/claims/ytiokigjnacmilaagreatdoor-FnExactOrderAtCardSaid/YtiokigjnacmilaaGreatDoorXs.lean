/- Walks: TimesSailed of both. -/
import Derived.Test.YtiokigjnacmilaaGreatDoorXt
import Derived.Test.YtiokigjnacmilaaGreatDoorTb
import Derived.Test.YtiokigjnacmilaaGreatDoorTs
import Derived.Test.YtiokigjnacmilaaGreatDoorCy
import Derived.Test.YtiokigjnacmilaaGreatDoorCz
namespace Go.Proofs.YtiokigjnacmilaaGreatDoor
open Go.RowKit

/-- The code of a course and a track. -/
def tsC (co tr ls : Bool) : Int := if co && tr then (if ls then 0 else 2) else 1
/-- The times at which the lines of a course are crossed. -/
def tsL (co tr : Bool) (A B C D : Nat → Int) (n2 : Nat) (T U V : Nat → Int) (n : Nat) : List Int := if tsC co tr (lnsOk A B C D (n + 1)) = 0 then (tmS A B C D T U V n2 (n + 2)).1 else []
theorem tsL_no {co tr : Bool} {A B C D : Nat → Int} {n2 : Nat} {T U V : Nat → Int} {n : Nat} (h : ¬ tsC co tr (lnsOk A B C D (n + 1)) = 0) : tsL co tr A B C D n2 T U V n = [] := by unfold tsL; rw [if_neg h]
theorem tsL_ok {A B C D : Nat → Int} {n2 : Nat} {T U V : Nat → Int} {n : Nat} (h : lnsOk A B C D (n + 1) = true) : tsL true true A B C D n2 T U V n = (tmS A B C D T U V n2 (n + 2)).1 := by unfold tsL; rw [h]; rfl
theorem tsC_tr (co ls : Bool) : tsC co false ls = 1 := by cases co <;> rfl
theorem tsC_co (tr ls : Bool) : tsC false tr ls = 1 := rfl
theorem tsC_z {co tr ls : Bool} (h : tsC co tr ls = 0) : co = true ∧ tr = true ∧ ls = true := by cases co <;> cases tr <;> cases ls <;> first | exact ⟨rfl, rfl, rfl⟩ | exact absurd h (by decide)
/-- The far line of a course is a line. -/
theorem ln_last (ax ay bx bY cx cy dx dy : Int) (so : Option Addr) (n cap : Nat) (N : Nat → ByteArray) (X Y S Z : Nat → Int) (g2 : isSg cx cy dx dy = true) : isSg (lnA ax ay bx bY cx cy dx dy n X Y S Z (n + 1)) (lnB ax ay bx bY cx cy dx dy n X Y S Z (n + 1)) (lnC ax ay bx bY cx cy dx dy n X Y S Z (n + 1)) (lnD ax ay bx bY cx cy dx dy n X Y S Z (n + 1)) = true := by
  unfold lnA lnB lnC lnD
  simp only [if_neg (Nat.succ_ne_zero n), if_neg (show ¬ n + 1 ≤ n by omega)]
  exact g2
end Go.Proofs.YtiokigjnacmilaaGreatDoor
