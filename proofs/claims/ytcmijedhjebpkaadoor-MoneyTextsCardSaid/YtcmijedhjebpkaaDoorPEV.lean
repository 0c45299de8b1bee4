/- Contract: the document's Even. -/
import Derived.Test.YtcmijedhjebpkaaDoorPE
namespace Go.Proofs.YtcmijedhjebpkaaDoor
open Go.RowKit Go.Proofs.Num Go.Proofs.Geo
end Go.Proofs.YtcmijedhjebpkaaDoor
