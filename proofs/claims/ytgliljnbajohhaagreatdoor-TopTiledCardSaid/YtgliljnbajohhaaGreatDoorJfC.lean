/- TopTiled: closed facts of its row, one at a time. -/
import Derived.Test.YtgliljnbajohhaaGreatDoorRows
import Derived.JoinedOf
import Derived.KernelRfl
namespace Go.Proofs.YtgliljnbajohhaaGreatDoor
open Go
set_option linter.unusedVariables false
theorem jf10 : (Rows.topTiledRow.inPlace == Tryz.prog.inPlace 3) = true := by kernel_rfl
theorem jf11 : (Rows.topTiledRow.unfollowed == Tryz.prog.unfollowed 3) = true := by kernel_rfl
theorem jf12 : (Rows.topTiledRow.recurses == Tryz.prog.recurses 3) = true := by kernel_rfl
theorem jf13 : (Rows.topTiledRow.named == Tryz.prog.varsNamed 3) = true := by kernel_rfl
end Go.Proofs.YtgliljnbajohhaaGreatDoor
