/- Walks: the heading at a time. -/
import Derived.Test.YtklbbopdmnopgaaGreatDoorTl
import Derived.Deep.DeepCutAuto
namespace Go.Proofs.YtklbbopdmnopgaaGreatDoor
open Go.RowKit

end Go.Proofs.YtklbbopdmnopgaaGreatDoor
/- Walks: the heading of the reference; the tack at a time. -/
namespace Go.Proofs.YtklbbopdmnopgaaGreatDoor
open Go.RowKit

theorem head_ok {n : Nat} {T X Y : Nat → Int} {t : Int} (hv : isTr n T X Y = true) (hz : (wayX n T X t == 0 && wayX n T Y t == 0) = false) : isHd (wayX n T X t) (wayX n T Y t) = true := by
 obtain ⟨_, _, _, p0, p1⟩ := isTr_leg hv (legF_lt T t (isTr_t hv).1)
 obtain ⟨x1, x2, x3, x4⟩ := isPt_t p0
 obtain ⟨y1, y2, y3, y4⟩ := isPt_t p1
 unfold isHd
 rw [hz]
 unfold wayX inB
 rw [decide_eq_true (by omega), decide_eq_true (by omega)]
 rfl
end Go.Proofs.YtklbbopdmnopgaaGreatDoor
