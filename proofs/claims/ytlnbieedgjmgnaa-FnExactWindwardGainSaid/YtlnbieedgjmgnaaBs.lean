/- Small words, second part. -/
import Derived.Test.YtlnbieedgjmgnaaBase
namespace Go.Proofs.Ytlnbieedgjmgnaa
open Go.RowKit
theorem frozen_later {w wx : World} {a : Addr} {v : Value} (hb : Below w.heap.size w wx) (h : w.cell? a = some v) (hf : w.frozen? a = false) : wx.frozen? a = false :=
  (hb.frozen (World.block_lt_of_cell? _ _ h)).trans hf
end Go.Proofs.Ytlnbieedgjmgnaa
