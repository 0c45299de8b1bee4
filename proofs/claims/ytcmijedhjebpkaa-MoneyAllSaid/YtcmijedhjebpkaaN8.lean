/- Contracts: the document's sign of a difference of two products. -/
import Derived.Test.YtcmijedhjebpkaaN7
import Derived.Test.YtcmijedhjebpkaaW5
namespace Go.Proofs.Ytcmijedhjebpkaa
open Go.RowKit Go.Proofs.Num Go.Proofs.Geo

theorem mulN_any (a b : Int) (ha : I64 a) (hb : I64 b) (w : World) :
    Calls Try.prog 38 #[.agg (numI a), .agg (numI b)] w fun e w' => e = .returned (.agg (numI (a * b))) ∧ Kp w w' := by
  unfold I64 at ha hb
  have h4 : ∀ X : Int, 0 ≤ X → X < 18446744073709551616 → sh X 4 = 0 := fun X h0 h => by show X / 65536 / 65536 / 65536 / 65536 = 0; omega
  have hbd : (a.natAbs : Int) * b.natAbs < top12 := by
    have := Int.mul_le_mul (show (a.natAbs : Int) ≤ 9223372036854775808 by omega) (show (b.natAbs : Int) ≤ 9223372036854775808 by omega) (by omega) (by omega)
    unfold top12; omega
  have ea : (a.natAbs : Int) = if a < 0 then -a else a := by split <;> omega
  have eb : (b.natAbs : Int) = if b < 0 then -b else b := by split <;> omega
  refine mul_core (decide (a < 0)) (decide (b < 0)) _ a.natAbs b.natAbs (a * b) (h4 _ (by omega) (by omega)) (h4 _ (by omega) (by omega)) hbd rfl ?_ w
  rw [ea, eb]
  by_cases k1 : a < 0 <;> by_cases k2 : b < 0 <;> simp [k1, k2] <;> grind
theorem mul_size {a b : Int} (ha : I64 a) (hb : I64 b) : (a * b).natAbs ≤ 85070591730234615865843651857942052864 := by
  unfold I64 at ha hb
  rw [Int.natAbs_mul]
  have := Nat.mul_le_mul (show a.natAbs ≤ 9223372036854775808 by omega) (show b.natAbs ≤ 9223372036854775808 by omega)
  omega

end Go.Proofs.Ytcmijedhjebpkaa
