/- TopTiled: closed facts of its row, one at a time. -/
import Derived.Test.YtgliljnbajohhaaGreatDoorRows
import Derived.JoinedOf
import Derived.KernelRfl
namespace Go.Proofs.YtgliljnbajohhaaGreatDoor
open Go
set_option linter.unusedVariables false
theorem jf1 : (Rows.topTiledRow.wf (OpenSpec.ofChange Rows.topTiledSpec)) = true := by kernel_rfl
theorem jf3 : (mapsRowed Tryz.prog) = true := by kernel_rfl
theorem jf4 : (Tryz.f3.params.all (Tryz.prog.readableRec ·)) = true := by kernel_rfl
theorem jf5 : (namedTie Tryz.prog Rows.topTiledRow.named Rows.topTiledSpec.vars) = true := by kernel_rfl
theorem jf6 : (Rows.topTiledRow.stops == []) = true := by kernel_rfl
theorem jf7 : (Tryz.prog.stops == []) = true := by kernel_rfl
theorem jf8 : (Rows.topTiledRow.knobs == []) = true := by kernel_rfl
theorem jf9 : (Tryz.prog.stopKnobs == []) = true := by kernel_rfl
theorem jf14 : (Rows.topTiledRow.maps == (Tryz.f3.params.toList ++ Rows.topTiledSpec.plain.varTypes Tryz.prog).any (Tryz.prog.mapsRec ·)) = true := by kernel_rfl
theorem jf15 : (Rows.topTiledRow.ifaces == (Tryz.f3.params.toList ++ Rows.topTiledSpec.plain.varTypes Tryz.prog).any (Tryz.prog.ifacesRec ·)) = true := by kernel_rfl
theorem jf16 : (Rows.topTiledRow.mapsOut == Tryz.prog.mapsAmong Tryz.f3.resultTypes.toList) = true := by kernel_rfl
theorem jf17 : (Rows.topTiledRow.loops == (Tryz.f3.params.toList ++ Rows.topTiledSpec.plain.varTypes Tryz.prog).any (Tryz.prog.loopsFrom ·)) = true := by kernel_rfl
theorem jf18 : (Rows.topTiledRow.wideKeys == (Tryz.f3.params.toList ++ Rows.topTiledSpec.plain.varTypes Tryz.prog ++ Tryz.f3.resultTypes.toList).any (Tryz.prog.wideKeysFrom ·)) = true := by kernel_rfl
theorem jf19 : (Rows.topTiledSpec.vars.all (Tryz.prog.varReadable ·)) = true := by kernel_rfl
theorem jf20 : (Tryz.f3.resultTypes.all (fun t => Tryz.prog.readableRec t && decide (t < Tryz.prog.types.size))) = true := by kernel_rfl
theorem jf21 : (Rows.topTiledRow.ifacesOut == Tryz.f3.resultTypes.toList.any (Tryz.prog.ifacesRec ·)) = true := by kernel_rfl
theorem jf22 : (Rows.topTiledRow.loopsOut == Tryz.f3.resultTypes.toList.any (Tryz.prog.loopsFrom ·)) = true := by kernel_rfl
theorem jf23 : (Rows.topTiledRow.plainKeys == Tryz.prog.plainKeys) = true := by kernel_rfl
theorem jf24 : (Rows.topTiledRow.shortTexts.isNone) = true := by kernel_rfl
theorem jf25 : (Tryz.prog.stopsHeard) = true := by kernel_rfl
theorem jf26 : (Tryz.prog.mayEnter) = true := by kernel_rfl
theorem jf27 : (Rows.topTiledRow.lifted == Tryz.prog.liftsFinal) = true := by kernel_rfl
theorem jf28 : (Tryz.prog.make == some Rows.topTiledRow.make) = true := by kernel_rfl
theorem jf29 : (Rows.topTiledRow.kinds == (if Rows.topTiledRow.domain.isEmpty then [] else Tryz.f3.params.toList.map fun t => match Tryz.prog.underlying t with | some (.int k) => some k | _ => none)) = true := by kernel_rfl
theorem jf30 : (Rows.topTiledRow.pinned == Rows.topTiledRow.pinnedBy) = true := by kernel_rfl
theorem jf31 : (Rows.topTiledRow.veiled == (Tryz.f3.params.toList ++ Rows.topTiledSpec.plain.varTypes Tryz.prog ++ Tryz.f3.resultTypes.toList).any (Tryz.prog.veiledRec ·)) = true := by kernel_rfl
theorem jf32 : (Rows.topTiledRow.veiledFits Tryz.prog Tryz.f3.params.toList (Tryz.f3.params.toList ++ Rows.topTiledSpec.plain.varTypes Tryz.prog ++ Tryz.f3.resultTypes.toList)) = true := by kernel_rfl
end Go.Proofs.YtgliljnbajohhaaGreatDoor
