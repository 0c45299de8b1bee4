/- Contracts: the document's sign of a difference of two products. -/
import Derived.Test.YtcmijedhjebpkaaDoorN7
import Derived.Test.YtcmijedhjebpkaaDoorW5
namespace Go.Proofs.YtcmijedhjebpkaaDoor
open Go.RowKit Go.Proofs.Num Go.Proofs.Geo

theorem mul_size {a b : Int} (ha : I64 a) (hb : I64 b) : (a * b).natAbs ≤ 85070591730234615865843651857942052864 := by
  unfold I64 at ha hb
  rw [Int.natAbs_mul]
  have := Nat.mul_le_mul (show a.natAbs ≤ 9223372036854775808 by omega) (show b.natAbs ≤ 9223372036854775808 by omega)
  omega

end Go.Proofs.YtcmijedhjebpkaaDoor
