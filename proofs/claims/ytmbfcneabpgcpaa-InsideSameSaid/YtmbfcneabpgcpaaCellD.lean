/- A cell after a draw. -/
import Derived.Test.YtmbfcneabpgcpaaW8
namespace Go.Proofs.Ytmbfcneabpgcpaa
open Go.RowKit
theorem cell_d {w : World} {a : Addr} {v : Value} (h : w.cell? a = some v) : w.drew.cell? a = some v := h
end Go.Proofs.Ytmbfcneabpgcpaa
