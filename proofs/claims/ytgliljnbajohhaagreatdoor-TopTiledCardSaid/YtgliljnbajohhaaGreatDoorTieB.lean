/- TopTiled: the ties of its listed variables: the run that lays them ends, and what they read as behind it. -/
import Derived.Test.YtgliljnbajohhaaGreatDoorTieA
namespace Go.Proofs.YtgliljnbajohhaaGreatDoor
open Go
theorem tie7 : ∀ (os : Os) (tape : Tape), varsDone Tryz.prog 400 (varsId Tryz.prog) os tape = true := fun _ _ => by kernel_rfl
theorem tie8 : ∀ (os : Os) (tape : Tape), (DataW.laidRun Tryz.prog (varsWorld Tryz.prog 400 (varsId Tryz.prog) os tape).memory 8 (tieL.map (·.1))).map (·.1) = some tieL := fun _ _ => by kernel_rfl
end Go.Proofs.YtgliljnbajohhaaGreatDoor
