/- Contracts: Valid. -/
import Derived.Test.YtcelipgokpnmfaaW1
namespace Go.Proofs.Ytcelipgokpnmfaa
open Go.RowKit Go.Proofs.Geo

/-- A point as a value. -/
abbrev pv (x y : Int) : Value := .agg #[.int .i64 x, .int .i64 y]

theorem okP_mk {x y : Int} {a b : Bool} (h1 : okB x = a) (h2 : okB y = b) : okP (x, y) = (a && b) := by unfold okP; rw [h1, h2]

theorem valid_any (x y : Int) (w : World) : Calls Try.prog 28 #[.agg #[.int .i64 x, .int .i64 y]] w fun e w' => e = .returned (.bool (okP (x, y))) ∧ Kp w w' := by
  cases h : okB x
  · have H := Lib.hid (okP_mk h (rfl : okB y = _))
    go_enter Try.func28, Try.ntmps28
    go_wp2_with (go_at_call 37; refine (fits_any _ _).mono ?_; rintro e w' ⟨rfl, rfl⟩)
    go_ret
    exact ⟨ret_bool H.out.symm, kp_alloc (kp_refl _) _⟩
  · have H := Lib.hid (okP_mk h (rfl : okB y = _))
    go_enter Try.func28, Try.ntmps28
    go_wp2_with (go_at_call 37; refine (fits_any _ _).mono ?_; rintro e w' ⟨rfl, rfl⟩)
    go_ret
    exact ⟨ret_bool (by rw [H.out]; rfl), kp_alloc (kp_refl _) _⟩
end Go.Proofs.Ytcelipgokpnmfaa
