/- Contract: point.In. -/
import Derived.Test.YtmbfcneabpgcpaaCellD
import Derived.Test.YtmbfcneabpgcpaaInsidePlain2
namespace Go.Proofs.Ytmbfcneabpgcpaa
open Go.RowKit Go.Proofs.Geo

set_option maxHeartbeats 1000000 in
theorem pin_any (px py lx ly hx hy : Int) (w : World) : Calls Try.prog 15 #[pv px py, .agg #[.int .i64 lx, .int .i64 ly, .int .i64 hx, .int .i64 hy]] w fun e w' =>
    e = .returned (.bool (inBox (px, py) lx ly hx hy)) ∧ Kp w w' := by
  have H : Hid (inBox (px, py) lx ly hx hy = (decide (lx ≤ px) && decide (px < hx) && decide (ly ≤ py) && decide (py < hy))) := rfl
  go_enter Try.func15, Try.ntmps15
  go_wp2
  all_goals
    go_ret
    exact ⟨ret_bool (by rw [H.out]; simp [*] <;> omega), kp_alloc (kp_alloc (kp_refl _) _) _⟩
end Go.Proofs.Ytmbfcneabpgcpaa
