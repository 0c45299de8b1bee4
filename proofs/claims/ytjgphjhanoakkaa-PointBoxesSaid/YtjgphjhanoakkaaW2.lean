/- Contracts: Valid, Compare. -/
import Derived.Test.YtjgphjhanoakkaaW1
import Derived.Below
namespace Go.Proofs.Ytjgphjhanoakkaa
open Go.RowKit Go.Proofs.Geo

/-- A point as a value. -/
abbrev pv (x y : Int) : Value := .agg #[.int .i64 x, .int .i64 y]

theorem okP_mk {x y : Int} {a b : Bool} (h1 : okB x = a) (h2 : okB y = b) : okP (x, y) = (a && b) := by unfold okP; rw [h1, h2]

theorem valid_any (x y : Int) (w : World) : Calls Try.prog 18 #[.agg #[.int .i64 x, .int .i64 y]] w fun e w' => e = .returned (.bool (okP (x, y))) ∧ Kp w w' := by
  cases h : okB x
  · have H := Lib.hid (okP_mk h (rfl : okB y = _))
    go_enter Try.func18, Try.ntmps18
    go_wp2_with (go_at_call 35; refine (fits_any _ _).mono ?_; rintro e w' ⟨rfl, rfl⟩)
    go_ret
    exact ⟨ret_bool H.out.symm, kp_alloc (kp_refl _) _⟩
  · have H := Lib.hid (okP_mk h (rfl : okB y = _))
    go_enter Try.func18, Try.ntmps18
    go_wp2_with (go_at_call 35; refine (fits_any _ _).mono ?_; rintro e w' ⟨rfl, rfl⟩)
    go_ret
    exact ⟨ret_bool (by rw [H.out]; rfl), kp_alloc (kp_refl _) _⟩

def orI (x y : Int) : Int := if x = 0 then y else x
theorem orI_0 {y : Int} : orI 0 y = y := by simp [orI]
theorem orI_1 {x y : Int} (h : ¬ x = 0) : orI x y = x := by simp [orI, h]

theorem or_any (b : Nat) (x y : Int) (w : World) (h0 : w.cell? ⟨b, 0, none⟩ = some (.int .i64 x)) (h1 : w.cell? ⟨b, 1, none⟩ = some (.int .i64 y)) :
    Calls Try.prog 33 #[.slice (some ⟨b, 0, none⟩) 2 2] w fun e w' => e = .returned (.int .i64 (orI x y)) ∧ w = w' := by
  by_cases hx : x = 0
  · subst hx
    have H := Lib.hid (orI_0 (y := y))
    by_cases hy : y = 0
    · subst hy
      go_enter Try.func33, Try.ntmps33
      go_wp2
      go_loop [8] (fun i => ∃ k : Nat, k ≤ 2 ∧ i = .int .i64 k) (fun i => 2 - (intOf i).toNat)
      case atStart => exact ⟨0, by omega, rfl⟩
      case round =>
        obtain ⟨k, hk, rfl⟩ := hrel
        have hk' : k = 0 ∨ k = 1 ∨ k = 2 := by omega
        rcases hk' with rfl | rfl | rfl
        · go_wp2
          go_round
          case rel => exact ⟨1, by omega, rfl⟩
          case measure => simp [intOf]
        · go_wp2
          go_round
          case rel => exact ⟨2, by omega, rfl⟩
          case measure => simp [intOf]
        · go_wp2
          go_ret
          exact ⟨ret_int H.out.symm, rfl⟩
    · go_enter Try.func33, Try.ntmps33
      go_wp2
      go_loop [8] (fun i => ∃ k : Nat, k ≤ 1 ∧ i = .int .i64 k) (fun i => 2 - (intOf i).toNat)
      case atStart => exact ⟨0, by omega, rfl⟩
      case round =>
        obtain ⟨k, hk, rfl⟩ := hrel
        have hk' : k = 0 ∨ k = 1 := by omega
        rcases hk' with rfl | rfl
        · go_wp2
          go_round
          case rel => exact ⟨1, by omega, rfl⟩
          case measure => simp [intOf]
        · go_wp2
          go_ret
          exact ⟨ret_int H.out.symm, rfl⟩
  · have H := Lib.hid (orI_1 (y := y) hx)
    go_enter Try.func33, Try.ntmps33
    go_wp2
    go_loop [8] (fun i => i = .int .i64 0) (fun i => 2 - (intOf i).toNat)
    case atStart => rfl
    case round =>
      subst hrel
      go_wp2
      go_ret
      exact ⟨ret_int H.out.symm, rfl⟩
theorem cmpP_or (ax ay bx bY : Int) : orI (cmpI ay bY) (cmpI ax bx) = cmpP (ax, ay) (bx, bY) := by
  unfold orI cmpI cmpP; (repeat' split) <;> omega

end Go.Proofs.Ytjgphjhanoakkaa
