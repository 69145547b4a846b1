/- The hull at a time: when it is there, and its code. -/
import Derived.Test.YtlllfklehbjneaaDoorTc
namespace Go.Proofs.YtlllfklehbjneaaDoor

/-- The hull at a time is there; its code. -/
def huOk (n : Nat) (T X Y : Nat → Int) (t len : Int) : Bool := isTr n T X Y && (inB len 1 1000 && (inB t (T 0) (T (n - 1)) && !(wayX n T X t == 0 && wayX n T Y t == 0)))
def huC (n : Nat) (T X Y : Nat → Int) (t len : Int) : Int := sel (isTr n T X Y) (sel (inB len 1 1000) (sel (inB t (T 0) (T (n - 1))) (sel (wayX n T X t == 0 && wayX n T Y t == 0) 5 0) 2) 2) 1
end Go.Proofs.YtlllfklehbjneaaDoor
