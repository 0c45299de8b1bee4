/- Contracts of the small functions: fits. -/
import Derived.Test.YtcelipgokpnmfaaW0
namespace Go.Proofs.Ytcelipgokpnmfaa
open Go.RowKit Go.Proofs.Geo

theorem okB_t {a : Int} (h1 : -1099511627775 ≤ a) (h2 : a ≤ 1099511627775) : okB a = true := okB_iff.2 ⟨h1, h2⟩
theorem okB_f {a : Int} (h : ¬ (-1099511627775 ≤ a ∧ a ≤ 1099511627775)) : okB a = false := by rw [← Bool.not_eq_true, okB_iff]; exact h
theorem fits_any (a : Int) (w : World) : Calls Try.prog 37 #[.int .i64 a] w fun e w' => e = .returned (.bool (okB a)) ∧ w = w' := by
  by_cases h : -1099511627775 ≤ a
  · by_cases h2 : a ≤ 1099511627775
    · have H := Lib.hid (okB_t h h2)
      go_enter Try.func37, Try.ntmps37
      go_wp2
      go_ret
      exact ⟨ret_bool H.out.symm, rfl⟩
    · have H := Lib.hid (okB_f (a := a) (by omega))
      go_enter Try.func37, Try.ntmps37
      go_wp2
      go_ret
      exact ⟨ret_bool H.out.symm, rfl⟩
  · have H := Lib.hid (okB_f (a := a) (by omega))
    go_enter Try.func37, Try.ntmps37
    go_wp2
    go_ret
    exact ⟨ret_bool H.out.symm, rfl⟩
end Go.Proofs.Ytcelipgokpnmfaa
