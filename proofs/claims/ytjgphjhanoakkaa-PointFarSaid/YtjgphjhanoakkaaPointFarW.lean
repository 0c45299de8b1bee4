/- The walk of PointFar. -/
import Derived.Test.YtjgphjhanoakkaaW7
namespace Go.Proofs.Ytjgphjhanoakkaa
open Go.RowKit Go.Proofs.Geo

theorem far_det {d s : Int} (h1 : -1099511627775 ≤ s) (h2 : s ≤ 1099511627775) (h3 : -1099511627775 ≤ s + d) (h4 : s + d ≤ 1099511627775) :
    turn (-1099511627775, -1099511627775) (1099511627775, 1099511627775) (s, s + d) = d.sign := by
  rw [turn_ok (by decide) (by decide) (okP_iff.2 ⟨⟨h1, h2⟩, h3, h4⟩)]
  have : det (-1099511627775, -1099511627775) (1099511627775, 1099511627775) (s, s + d) = 2199023255550 * d := by unfold det; simp only; omega
  rw [this, Int.sign_mul, show Int.sign 2199023255550 = 1 from rfl, Int.one_mul]
theorem far_on0 {s : Int} (h1 : -1099511627775 ≤ s) (h2 : s ≤ 1099511627775) : onS (s, s) (-1099511627775, -1099511627775) (1099511627775, 1099511627775) = true := by
  refine onS_iff.2 ⟨okP_iff.2 ⟨⟨h1, h2⟩, h1, h2⟩, by decide, by decide, btw_iff.2 (by simp only; omega), btw_iff.2 (by simp only; omega), ?_⟩
  unfold det; simp only; omega
theorem far_on {d s : Int} (hd : d ≠ 0) : onS (s, s + d) (-1099511627775, -1099511627775) (1099511627775, 1099511627775) = false := by
  rw [← Bool.not_eq_true, onS_iff]
  rintro ⟨_, _, _, _, _, h⟩
  unfold det at h; simp only at h; omega

set_option maxHeartbeats 4000000 in
theorem pointFar_walk (d s : Int) (w : World) : Calls Try.prog 4 #[.int .i64 d, .int .i64 s] w fun e w' => e = .returned (.bool true) ∧ Kp w w' := by
  by_cases c1 : d < -1099511627775
  · go_enter Try.func4, Try.ntmps4
    go_wp2_with (go_at_call 11; refine (awake07_any _).mono ?_; rintro e w1 ⟨rfl, hk1⟩)
    go_ret
    exact ⟨rfl, hk1⟩
  by_cases c2 : 1099511627775 < d
  · go_enter Try.func4, Try.ntmps4
    go_wp2_with (go_at_call 11; refine (awake07_any _).mono ?_; rintro e w1 ⟨rfl, hk1⟩)
    go_ret
    exact ⟨rfl, hk1⟩
  by_cases c3 : s < -1099511627775
  · go_enter Try.func4, Try.ntmps4
    go_wp2_with (go_at_call 11; refine (awake07_any _).mono ?_; rintro e w1 ⟨rfl, hk1⟩)
    go_ret
    exact ⟨rfl, hk1⟩
  by_cases c4 : 1099511627775 < s
  · go_enter Try.func4, Try.ntmps4
    go_wp2_with (go_at_call 11; refine (awake07_any _).mono ?_; rintro e w1 ⟨rfl, hk1⟩)
    go_ret
    exact ⟨rfl, hk1⟩
  have d1 : -1099511627775 ≤ d := by omega
  have d2 : d ≤ 1099511627775 := by omega
  have s1 : -1099511627775 ≤ s := by omega
  have s2 : s ≤ 1099511627775 := by omega
  clear c1 c2 c3 c4
  by_cases c5 : s + d < -1099511627775
  · go_enter Try.func4, Try.ntmps4
    go_wp2_with (go_at_call 11; refine (awake07_any _).mono ?_; rintro e w1 ⟨rfl, hk1⟩)
    go_ret
    exact ⟨rfl, hk1⟩
  by_cases c6 : 1099511627775 < s + d
  · go_enter Try.func4, Try.ntmps4
    go_wp2_with (go_at_call 11; refine (awake07_any _).mono ?_; rintro e w1 ⟨rfl, hk1⟩)
    go_ret
    exact ⟨rfl, hk1⟩
  have t1 : -1099511627775 ≤ s + d := by omega
  have t2 : s + d ≤ 1099511627775 := by omega
  clear c5 c6
  have hT := far_det s1 s2 t1 t2
  rcases Int.lt_trichotomy d 0 with h | h | h
  · have hT' : turn (-1099511627775, -1099511627775) (1099511627775, 1099511627775) (s, s + d) = -1 := by rw [hT]; exact Int.sign_eq_neg_one_of_neg h
    have hO := far_on (d := d) (s := s) (by omega)
    have hn : (d == 0) = false := by simp; omega
    clear hT
    go_enter Try.func4, Try.ntmps4
    go_wp2_with (first
      | (go_at_call 11; refine (awake07_any _).mono ?_; rintro e w1 ⟨rfl, hk1⟩)
      | (go_at_call 13; refine (at07_any _ _ _).mono ?_; rintro e w' ⟨rfl, hk⟩)
      | (go_at_call 12; refine (turn_any _ _ _ _ _ _ _).mono ?_; rintro e w' ⟨rfl, hk⟩)
      | (go_at_call 14; refine (on_any _ _ _ _ _ _ _).mono ?_; rintro e w' ⟨rfl, hk⟩))
    go_ret
    exact ⟨rfl, by repeat (first | exact kp_refl _ | apply kp_drew | apply kp_alloc | refine kp_trans ?_ (by assumption))⟩
  · subst h
    have hT' : turn (-1099511627775, -1099511627775) (1099511627775, 1099511627775) (s, s) = 0 := by simpa using hT
    have hO := far_on0 s1 s2
    clear hT
    go_enter Try.func4, Try.ntmps4
    go_wp2_with (first
      | (go_at_call 11; refine (awake07_any _).mono ?_; rintro e w1 ⟨rfl, hk1⟩)
      | (go_at_call 13; refine (at07_any _ _ _).mono ?_; rintro e w' ⟨rfl, hk⟩)
      | (go_at_call 12; refine (turn_any _ _ _ _ _ _ _).mono ?_; rintro e w' ⟨rfl, hk⟩)
      | (go_at_call 14; refine (on_any _ _ _ _ _ _ _).mono ?_; rintro e w' ⟨rfl, hk⟩))
    go_ret
    exact ⟨rfl, by repeat (first | exact kp_refl _ | apply kp_drew | apply kp_alloc | refine kp_trans ?_ (by assumption))⟩
  · have hT' : turn (-1099511627775, -1099511627775) (1099511627775, 1099511627775) (s, s + d) = 1 := by rw [hT]; exact Int.sign_eq_one_of_pos h
    have hO := far_on (d := d) (s := s) (by omega)
    have hn : (d == 0) = false := by simp; omega
    clear hT
    go_enter Try.func4, Try.ntmps4
    go_wp2_with (first
      | (go_at_call 11; refine (awake07_any _).mono ?_; rintro e w1 ⟨rfl, hk1⟩)
      | (go_at_call 13; refine (at07_any _ _ _).mono ?_; rintro e w' ⟨rfl, hk⟩)
      | (go_at_call 12; refine (turn_any _ _ _ _ _ _ _).mono ?_; rintro e w' ⟨rfl, hk⟩)
      | (go_at_call 14; refine (on_any _ _ _ _ _ _ _).mono ?_; rintro e w' ⟨rfl, hk⟩))
    go_ret
    exact ⟨rfl, by repeat (first | exact kp_refl _ | apply kp_drew | apply kp_alloc | refine kp_trans ?_ (by assumption))⟩
end Go.Proofs.Ytjgphjhanoakkaa
