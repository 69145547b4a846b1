/- Walks: the law's bound on codes; the draws that the laws begin with. -/
import Derived.Test.YtndlpoffpcpnkaaDh
namespace Go.Proofs.Ytndlpoffpcpnkaa
open Go.RowKit

theorem laws_big (so : Option Addr) (n cap : Nat) (w : World) (hn : n ≤ 9223372036854775807) :
    Calls Try.prog 4 #[.slice so n cap] w fun e w' => e = .returned (.bool (decide (4096 < n))) ∧ w = w' := by
  by_cases h : 4096 < n
  · go_enter Try.func4, Try.ntmps4
    go_wp2
    go_ret
    exact ⟨ret_b (by rw [decide_eq_decide]; omega), rfl⟩
  · go_enter Try.func4, Try.ntmps4
    go_wp2
    go_ret
    exact ⟨ret_b (by rw [decide_eq_decide]; omega), rfl⟩
theorem below_gr {w W W' : World} {B g : Nat} (h : Below B w W) (k : W.grownBy W' (some g)) (hB : B ≤ W.heap.size) (hg : B ≤ g) : Below B w W' :=
  h.trans (below_grown' k hB hg)
end Go.Proofs.Ytndlpoffpcpnkaa
