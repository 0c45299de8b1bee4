/- Contract: point.Meet. -/
import Derived.Test.YtjgphjhanoakkaaCellD
namespace Go.Proofs.Ytjgphjhanoakkaa
open Go.RowKit Go.Proofs.Geo

/-- Have two boxes a point? -/
def meetB (a b : Int × Int × Int × Int) : Bool := decide (max a.1 b.1 < min a.2.2.1 b.2.2.1) && decide (max a.2.1 b.2.1 < min a.2.2.2 b.2.2.2)
theorem meetB_iff {a b c d e g h k : Int} : meetB (a, b, c, d) (e, g, h, k) = true ↔ (a < c ∧ a < h ∧ e < c ∧ e < h) ∧ b < d ∧ b < k ∧ g < d ∧ g < k := by
  simp only [meetB, Bool.and_eq_true, decide_eq_true_eq]; omega
set_option maxHeartbeats 4000000 in
theorem pmeet_any (a b c d e g h k : Int) (w : World) : Calls Try.prog 28 #[.agg #[.int .i64 a, .int .i64 b, .int .i64 c, .int .i64 d], .agg #[.int .i64 e, .int .i64 g, .int .i64 h, .int .i64 k]] w fun r w' =>
    r = .returned (.bool (meetB (a, b, c, d) (e, g, h, k))) ∧ Kp w w' := by
  go_enter Try.func28, Try.ntmps28
  go_wp2
  all_goals
    go_ret
    exact ⟨ret_bool (by rw [Bool.eq_iff_iff, meetB_iff]; simp [*] <;> omega), kp_alloc (kp_alloc (kp_refl _) _) _⟩

end Go.Proofs.Ytjgphjhanoakkaa
