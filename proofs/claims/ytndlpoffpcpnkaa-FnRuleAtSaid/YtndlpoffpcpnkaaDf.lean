/- Walks: what the laws on tracks begin with. -/
import Derived.Test.YtndlpoffpcpnkaaDe
import Derived.Test.YtndlpoffpcpnkaaIx
namespace Go.Proofs.Ytndlpoffpcpnkaa
open Go.RowKit

/-- A wind and a track; a time and a span besides. -/
def MvD (e : Ending) (w' : World) : Prop := ∃ (wx wy : Int) (so : Option Addr) (n cap : Nat) (T X Y : Nat → Int), e = .returned (.tuple #[.agg #[.int .i64 wx, .int .i64 wy], .agg #[.slice so n cap]]) ∧ n ≤ 41 ∧ RowAt w' so n 3 (v3 T X Y)
def TuD (e : Ending) (w' : World) : Prop := ∃ (wx wy time span : Int) (so : Option Addr) (n cap : Nat) (T X Y : Nat → Int), e = .returned (.tuple #[.agg #[.int .i64 wx, .int .i64 wy], .agg #[.slice so n cap], .int .i64 time, .int .i64 span]) ∧ n ≤ 41 ∧ RowAt w' so n 3 (v3 T X Y)

end Go.Proofs.Ytndlpoffpcpnkaa
