/- Numbers stored cell by cell; the document's sum. -/
import Derived.Test.YtcmijedhjebpkaaDoorRI
import Derived.Test.YtcmijedhjebpkaaDoorAI
import Derived.Test.YtcmijedhjebpkaaDoorCellD0
import Derived.Deep.RegionHeld3
namespace Go.Proofs.YtcmijedhjebpkaaDoor
open Go.RowKit Go.Proofs.Num Go.Proofs.Geo
theorem kp_put {W w : World} (h : Kp W w) {B : Nat} (hB : W.heap.size ≤ B) (s : Bool) (f0 f1 f2 f3 f4 f5 f6 f7 f8 f9 f10 f11 : Int) : Kp W (((((((((((((w.setCell ⟨B, 0, none⟩ (.bool s)).setCell ⟨B, 1, none⟩ (.int .i64 f0)).setCell ⟨B, 2, none⟩ (.int .i64 f1)).setCell ⟨B, 3, none⟩ (.int .i64 f2)).setCell ⟨B, 4, none⟩ (.int .i64 f3)).setCell ⟨B, 5, none⟩ (.int .i64 f4)).setCell ⟨B, 6, none⟩ (.int .i64 f5)).setCell ⟨B, 7, none⟩ (.int .i64 f6)).setCell ⟨B, 8, none⟩ (.int .i64 f7)).setCell ⟨B, 9, none⟩ (.int .i64 f8)).setCell ⟨B, 10, none⟩ (.int .i64 f9)).setCell ⟨B, 11, none⟩ (.int .i64 f10)).setCell ⟨B, 12, none⟩ (.int .i64 f11)) :=
  kp_set (kp_set (kp_set (kp_set (kp_set (kp_set (kp_set (kp_set (kp_set (kp_set (kp_set (kp_set (kp_set h (a := ⟨B, 0, none⟩) hB _) (a := ⟨B, 1, none⟩) hB _) (a := ⟨B, 2, none⟩) hB _) (a := ⟨B, 3, none⟩) hB _) (a := ⟨B, 4, none⟩) hB _) (a := ⟨B, 5, none⟩) hB _) (a := ⟨B, 6, none⟩) hB _) (a := ⟨B, 7, none⟩) hB _) (a := ⟨B, 8, none⟩) hB _) (a := ⟨B, 9, none⟩) hB _) (a := ⟨B, 10, none⟩) hB _) (a := ⟨B, 11, none⟩) hB _) (a := ⟨B, 12, none⟩) hB _
theorem num12 (V : Int) : ∃ (s : Bool) (e0 e1 e2 e3 e4 e5 e6 e7 e8 e9 e10 e11 : Int), numI V = numC s [e0, e1, e2, e3, e4, e5, e6, e7, e8, e9, e10, e11] ∧ d12 V.natAbs = [e0, e1, e2, e3, e4, e5, e6, e7, e8, e9, e10, e11] ∧ s = decide (V < 0) :=
  ⟨_, _, _, _, _, _, _, _, _, _, _, _, _, rfl, rfl, rfl⟩
end Go.Proofs.YtcmijedhjebpkaaDoor
