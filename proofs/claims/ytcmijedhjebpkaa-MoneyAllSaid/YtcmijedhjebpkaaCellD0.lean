/- A cell after a draw. -/
import Derived.Test.YtcmijedhjebpkaaK0
namespace Go.Proofs.Ytcmijedhjebpkaa
open Go.RowKit
theorem cell_d {w : World} {a : Addr} {v : Value} (h : w.cell? a = some v) : w.drew.cell? a = some v := h
end Go.Proofs.Ytcmijedhjebpkaa
