/- A cell after a draw. -/
import Derived.Test.YtcmijedhjebpkaaDoorK0
namespace Go.Proofs.YtcmijedhjebpkaaDoor
open Go.RowKit
theorem cell_d {w : World} {a : Addr} {v : Value} (h : w.cell? a = some v) : w.drew.cell? a = some v := h
end Go.Proofs.YtcmijedhjebpkaaDoor
