/- A cell after a draw. -/
import Derived.Test.YtcelipgokpnmfaaW8
namespace Go.Proofs.Ytcelipgokpnmfaa
open Go.RowKit
theorem cell_d {w : World} {a : Addr} {v : Value} (h : w.cell? a = some v) : w.drew.cell? a = some v := h
end Go.Proofs.Ytcelipgokpnmfaa
