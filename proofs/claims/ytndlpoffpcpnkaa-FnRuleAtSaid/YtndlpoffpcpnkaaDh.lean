/- Walks: hulls are drawn. -/
import Derived.Test.YtndlpoffpcpnkaaDq
namespace Go.Proofs.Ytndlpoffpcpnkaa
open Go.RowKit

/-- What a draw of a hull returns. -/
def HuD (w : World) (g : Nat) (e : Ending) (w' : World) : Prop := (∃ a b c d l : Int, e = .returned (.agg #[.int .i64 a, .int .i64 b, .int .i64 c, .int .i64 d, .int .i64 l])) ∧ w.grownBy w' (some g) ∧ Src w' g
end Go.Proofs.Ytndlpoffpcpnkaa
