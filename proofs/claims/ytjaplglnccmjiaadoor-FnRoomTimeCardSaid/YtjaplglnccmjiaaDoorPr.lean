/- Plain: the room time of two tracks against the times at which each comes to the mark. -/
import Derived.Test.YtjaplglnccmjiaaDoorZc
namespace Go.Proofs.YtjaplglnccmjiaaDoor
open Go.RowKit

theorem rt_cases (co tr tu : Bool) (n : Nat) (k c d : Int) {bad one two x a b : Int} (h0 : bad = rmC co tr tu n k (rtI c d)) (h1 : one = if zoC co tr n k == 0 then sel (decide (0 ≤ c)) 0 4 else zoC co tr n k) (h2 : two = if zoC co tu n k == 0 then sel (decide (0 ≤ d)) 0 4 else zoC co tu n k)
    (hx : x = sel (rmOk co tr tu n k (rtI c d)) (rtI c d) 0) (ha : a = sel (zoC co tr n k == 0 && decide (0 ≤ c)) c 0) (hb : b = sel (zoC co tu n k == 0 && decide (0 ≤ d)) d 0) :
    (¬ bad = 0 ∧ (¬ one = 0 ∨ one = 0 ∧ ¬ two = 0)) ∨ (bad = 0 ∧ one = 0 ∧ two = 0 ∧ (x = a ∧ a < b ∨ x = b ∧ b < a ∨ x = a ∧ a = b)) ∨ (bad = 0 ∧ one = 0 ∧ ¬ two = 0 ∧ x = a) ∨ (bad = 0 ∧ ¬ one = 0 ∧ two = 0 ∧ x = b) := by
  subst h0 h1 h2 hx ha hb
  unfold rmC rmOk zoC rtI
  cases co
  · left; cases tr <;> cases tu <;> simp [sel]
  · cases tu
    · left; cases tr <;> simp [sel] <;> (repeat' split) <;> simp_all <;> omega
    · cases tr
      · left; simp [sel]
      · cases inB k 0 ((n : Int) - 1)
        · left; simp [sel]
        · by_cases hc : 0 ≤ c <;> by_cases hd : 0 ≤ d <;> simp [sel, hc, hd] <;> (repeat' split) <;> omega
end Go.Proofs.YtjaplglnccmjiaaDoor
