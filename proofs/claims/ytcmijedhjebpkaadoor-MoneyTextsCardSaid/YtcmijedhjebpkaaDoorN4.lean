/- Contracts of numbers in digits: size. -/
import Derived.Test.YtcmijedhjebpkaaDoorN3
namespace Go.Proofs.YtcmijedhjebpkaaDoor
open Go.RowKit Go.Proofs.Num

theorem d12_get (X : Int) (j : Nat) (h : j < (d12 X).length) : (d12 X)[j] = dg X j := by simp [d12]
theorem cmp_sh_lt {X Y : Int} {j : Nat} (h : sh X (j + 1) = sh Y (j + 1)) (hd : dg X j < dg Y j) : -1 = cmpI X Y := (cmpI_lt (lt_of_dg h hd)).symm
theorem cmp_sh_gt {X Y : Int} {j : Nat} (h : sh X (j + 1) = sh Y (j + 1)) (hd : dg Y j < dg X j) : 1 = cmpI X Y := (cmpI_gt (lt_of_dg h.symm hd)).symm
end Go.Proofs.YtcmijedhjebpkaaDoor
