/- Contracts: 'parts' of the document's numbers. -/
import Derived.Test.YtcmijedhjebpkaaDoorPTP
namespace Go.Proofs.YtcmijedhjebpkaaDoor
open Go.RowKit Go.Proofs.Num Go.Proofs.Geo
end Go.Proofs.YtcmijedhjebpkaaDoor
