/- TopTiled: the ties of its listed variables: their places; the row's tie. -/
import Derived.Test.YtgliljnbajohhaaGreatDoorTieB
import Derived.SevenTiedAt
namespace Go.Proofs.YtgliljnbajohhaaGreatDoor
open Go
theorem tie9 : ∀ (os : Os) (tape : Tape), (DataW.laidRun Tryz.prog (varsWorld Tryz.prog 400 (varsId Tryz.prog) os tape).memory 8 (tieL.map (·.1))).map (fun x => decide x.2.Nodup && laidRowsB Tryz.prog (varsWorld Tryz.prog 400 (varsId Tryz.prog) os tape).memory x.2) = some true := fun _ _ => by kernel_rfl
end Go.Proofs.YtgliljnbajohhaaGreatDoor
