/- TopTiled: a closed fact of its row. -/
import Derived.Test.YtgliljnbajohhaaGreatDoorRows
import Derived.JoinedOf
import Derived.KernelRfl
namespace Go.Proofs.YtgliljnbajohhaaGreatDoor
open Go
set_option linter.unusedVariables false
theorem jf2 : (laidOutB Tryz.prog) = true := by kernel_rfl
end Go.Proofs.YtgliljnbajohhaaGreatDoor
