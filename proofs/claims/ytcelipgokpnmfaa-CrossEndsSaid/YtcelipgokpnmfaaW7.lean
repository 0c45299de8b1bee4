/- Contracts: between, On. -/
import Derived.Test.YtcelipgokpnmfaaK
namespace Go.Proofs.Ytcelipgokpnmfaa
open Go.RowKit Go.Proofs.Geo

theorem between_any (n a b : Int) (w : World) : Calls Try.prog 30 #[.int .i64 n, .int .i64 a, .int .i64 b] w fun e w' => e = .returned (.bool (btw n a b)) ∧ w = w' := by
  go_enter Try.func30, Try.ntmps30
  go_wp2
  all_goals
    go_ret
    exact ⟨ret_bool (by rw [Bool.eq_iff_iff, btw_iff]; simp; omega), rfl⟩

theorem onS_steps {px py ax ay bx bY : Int} : onS (px, py) (ax, ay) (bx, bY) = ((okP (px, py) && okP (ax, ay) && okP (bx, bY)) && btw px ax bx && btw py ay bY && (turn (ax, ay) (bx, bY) (px, py) == 0)) := by
  unfold onS; rw [Bool.eq_iff_iff]; simp

set_option maxHeartbeats 1000000 in
theorem on_any (px py ax ay bx bY : Int) (w : World) : Calls Try.prog 16 #[pv px py, pv ax ay, pv bx bY] w fun e w' =>
    e = .returned (.bool (onS (px, py) (ax, ay) (bx, bY))) ∧ Kp w w' := by
  have HS := Lib.hid (onS_steps (px := px) (py := py) (ax := ax) (ay := ay) (bx := bx) (bY := bY))
  cases h : (okP (px, py) && okP (ax, ay) && okP (bx, bY))
  · have H := Lib.hid h
    go_enter Try.func16, Try.ntmps16
    go_wp2_with (go_at_call 29; refine (valid3 _ (px, py) (ax, ay) (bx, bY) _ ?_ ?_ ?_ ?_ ?_ ?_).mono ?_; (iterate 6 (focus (simp [go_sem]))); rintro e w' ⟨rfl, hk1⟩)
    go_ret
    exact ⟨ret_bool (by rw [HS.out, H.out]; rfl), by repeat (first | exact kp_refl _ | apply kp_drew | apply kp_alloc | refine kp_trans ?_ hk1)⟩
  · have H := Lib.hid h
    cases h1 : btw px ax bx
    · have H1 := Lib.hid h1
      go_enter Try.func16, Try.ntmps16
      go_wp2_with (first
        | (go_at_call 29; refine (valid3 _ (px, py) (ax, ay) (bx, bY) _ ?_ ?_ ?_ ?_ ?_ ?_).mono ?_; (iterate 6 (focus (simp [go_sem]))); rintro e w' ⟨rfl, hk1⟩; obtain ⟨hc1, hf1, hz1⟩ := kp_all hk1)
        | (go_at_call 30; refine (between_any _ _ _ _).mono ?_; rintro e w' ⟨rfl, rfl⟩))
      go_ret
      exact ⟨ret_bool (by rw [HS.out, H.out, H1.out]; rfl), by repeat (first | exact kp_refl _ | apply kp_drew | apply kp_alloc | refine kp_trans ?_ hk1)⟩
    · have H1 := Lib.hid h1
      cases h2 : btw py ay bY
      · have H2 := Lib.hid h2
        go_enter Try.func16, Try.ntmps16
        go_wp2_with (first
          | (go_at_call 29; refine (valid3 _ (px, py) (ax, ay) (bx, bY) _ ?_ ?_ ?_ ?_ ?_ ?_).mono ?_; (iterate 6 (focus (simp [go_sem]))); rintro e w' ⟨rfl, hk1⟩; obtain ⟨hc1, hf1, hz1⟩ := kp_all hk1)
          | (go_at_call 30; refine (between_any _ _ _ _).mono ?_; rintro e w' ⟨rfl, rfl⟩))
        go_ret
        exact ⟨ret_bool (by rw [HS.out, H.out, H1.out, H2.out]; rfl), by repeat (first | exact kp_refl _ | apply kp_drew | apply kp_alloc | refine kp_trans ?_ hk1)⟩
      · have H2 := Lib.hid h2
        go_enter Try.func16, Try.ntmps16
        go_wp2_with (first
          | (go_at_call 29; refine (valid3 _ (px, py) (ax, ay) (bx, bY) _ ?_ ?_ ?_ ?_ ?_ ?_).mono ?_; (iterate 6 (focus (simp [go_sem]))); rintro e w' ⟨rfl, hk1⟩; obtain ⟨hc1, hf1, hz1⟩ := kp_all hk1)
          | (go_at_call 30; refine (between_any _ _ _ _).mono ?_; rintro e w' ⟨rfl, rfl⟩)
          | (go_at_call 21; refine (turn_any _ _ _ _ _ _ _).mono ?_; rintro e w' ⟨rfl, hk2⟩))
        go_ret
        exact ⟨ret_bool (by rw [HS.out, H.out, H1.out, H2.out]; simp), by repeat (first | exact kp_refl _ | apply kp_drew | apply kp_alloc | refine kp_trans ?_ hk2 | refine kp_trans ?_ hk1)⟩

end Go.Proofs.Ytcelipgokpnmfaa
