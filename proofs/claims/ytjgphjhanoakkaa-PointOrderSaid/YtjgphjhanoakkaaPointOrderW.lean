/- The walk of PointOrder. -/
import Derived.Test.YtjgphjhanoakkaaW7
namespace Go.Proofs.Ytjgphjhanoakkaa
open Go.RowKit Go.Proofs.Geo

theorem cmpP_self (a : Pt) : cmpP a a = 0 := cmpP_zero.2 rfl

set_option maxHeartbeats 4000000 in
theorem order_ne1 (ax ay bx bY cx cy : Int) (w : World) (hne : (ax == bx) = false) : Calls Try.prog 5 #[pv ax ay, pv bx bY, pv cx cy] w fun e w' => e = .returned (.bool true) ∧ Kp w w' := by
  have hab : (ax, ay) ≠ ((bx, bY) : Pt) := by intro e; simp at e; simp [e] at hne
  have hb := cmpP_bd (ax, ay) (bx, bY)
  have hz : cmpP (ax, ay) (bx, bY) ≠ 0 := fun e => hab (cmpP_zero.1 e)
  have hs := cmpP_neg (ax, ay) (bx, bY)
  have hx : cmpP (ax, ay) (bx, bY) = 1 ∨ cmpP (ax, ay) (bx, bY) = -1 := by omega
  clear hb hz hab
  rcases hx with hx | hx
  · have hx' : cmpP (bx, bY) (ax, ay) = -1 := by rw [hs, hx]
    clear hs
    go_enter Try.func5, Try.ntmps5
    go_wp2_with (first
      | (go_at_call 11; refine (awake07_any _).mono ?_; rintro e w1 ⟨rfl, hk⟩; obtain ⟨hc1, hf1, hz1⟩ := kp_all hk; obtain ⟨l0, l1, l2⟩ := kp_lt3 (w := w) hk (by first | omega | (simp only [World.size_alloc]; omega)); clear hz1)
      | (go_at_call 15; refine (compare_any _ _ _ _ _).mono ?_; rintro e w' ⟨rfl, hk⟩; obtain ⟨hc1, hf1, hz1⟩ := kp_all hk; obtain ⟨l0, l1, l2⟩ := kp_lt3 (w := w) hk (by first | omega | (simp only [World.size_alloc]; omega)); clear hz1))
    go_ret
    exact ⟨rfl, by repeat (first | exact kp_refl _ | apply kp_drew | apply kp_alloc | refine kp_trans ?_ (by assumption))⟩
  · have hx' : cmpP (bx, bY) (ax, ay) = 1 := by rw [hs, hx]; rfl
    clear hs
    by_cases hc : 0 < cmpP (bx, bY) (cx, cy)
    · skip
      go_enter Try.func5, Try.ntmps5
      go_wp2_with (first
        | (go_at_call 11; refine (awake07_any _).mono ?_; rintro e w1 ⟨rfl, hk⟩; obtain ⟨hc1, hf1, hz1⟩ := kp_all hk; obtain ⟨l0, l1, l2⟩ := kp_lt3 (w := w) hk (by first | omega | (simp only [World.size_alloc]; omega)); clear hz1)
        | (go_at_call 15; refine (compare_any _ _ _ _ _).mono ?_; rintro e w' ⟨rfl, hk⟩; obtain ⟨hc1, hf1, hz1⟩ := kp_all hk; obtain ⟨l0, l1, l2⟩ := kp_lt3 (w := w) hk (by first | omega | (simp only [World.size_alloc]; omega)); clear hz1))
      go_ret
      exact ⟨rfl, by repeat (first | exact kp_refl _ | apply kp_drew | apply kp_alloc | refine kp_trans ?_ (by assumption))⟩
    · have hd : cmpP (ax, ay) (cx, cy) ≤ 0 := cmpP_trans (b := (bx, bY)) (by omega) (by omega)
      go_enter Try.func5, Try.ntmps5
      go_wp2_with (first
        | (go_at_call 11; refine (awake07_any _).mono ?_; rintro e w1 ⟨rfl, hk⟩; obtain ⟨hc1, hf1, hz1⟩ := kp_all hk; obtain ⟨l0, l1, l2⟩ := kp_lt3 (w := w) hk (by first | omega | (simp only [World.size_alloc]; omega)); clear hz1)
        | (go_at_call 15; refine (compare_any _ _ _ _ _).mono ?_; rintro e w' ⟨rfl, hk⟩; obtain ⟨hc1, hf1, hz1⟩ := kp_all hk; obtain ⟨l0, l1, l2⟩ := kp_lt3 (w := w) hk (by first | omega | (simp only [World.size_alloc]; omega)); clear hz1))
      go_ret
      exact ⟨rfl, by repeat (first | exact kp_refl _ | apply kp_drew | apply kp_alloc | refine kp_trans ?_ (by assumption))⟩

set_option maxHeartbeats 4000000 in
theorem order_ne2 (ax ay bY cx cy : Int) (w : World) (hne : (ay == bY) = false) : Calls Try.prog 5 #[pv ax ay, pv ax bY, pv cx cy] w fun e w' => e = .returned (.bool true) ∧ Kp w w' := by
  have hab : (ax, ay) ≠ ((ax, bY) : Pt) := by intro e; simp at e; simp [e] at hne
  have hb := cmpP_bd (ax, ay) (ax, bY)
  have hz : cmpP (ax, ay) (ax, bY) ≠ 0 := fun e => hab (cmpP_zero.1 e)
  have hs := cmpP_neg (ax, ay) (ax, bY)
  have hx : cmpP (ax, ay) (ax, bY) = 1 ∨ cmpP (ax, ay) (ax, bY) = -1 := by omega
  clear hb hz hab
  rcases hx with hx | hx
  · have hx' : cmpP (ax, bY) (ax, ay) = -1 := by rw [hs, hx]
    clear hs
    go_enter Try.func5, Try.ntmps5
    go_wp2_with (first
      | (go_at_call 11; refine (awake07_any _).mono ?_; rintro e w1 ⟨rfl, hk⟩; obtain ⟨hc1, hf1, hz1⟩ := kp_all hk; obtain ⟨l0, l1, l2⟩ := kp_lt3 (w := w) hk (by first | omega | (simp only [World.size_alloc]; omega)); clear hz1)
      | (go_at_call 15; refine (compare_any _ _ _ _ _).mono ?_; rintro e w' ⟨rfl, hk⟩; obtain ⟨hc1, hf1, hz1⟩ := kp_all hk; obtain ⟨l0, l1, l2⟩ := kp_lt3 (w := w) hk (by first | omega | (simp only [World.size_alloc]; omega)); clear hz1))
    go_ret
    exact ⟨rfl, by repeat (first | exact kp_refl _ | apply kp_drew | apply kp_alloc | refine kp_trans ?_ (by assumption))⟩
  · have hx' : cmpP (ax, bY) (ax, ay) = 1 := by rw [hs, hx]; rfl
    clear hs
    by_cases hc : 0 < cmpP (ax, bY) (cx, cy)
    · skip
      go_enter Try.func5, Try.ntmps5
      go_wp2_with (first
        | (go_at_call 11; refine (awake07_any _).mono ?_; rintro e w1 ⟨rfl, hk⟩; obtain ⟨hc1, hf1, hz1⟩ := kp_all hk; obtain ⟨l0, l1, l2⟩ := kp_lt3 (w := w) hk (by first | omega | (simp only [World.size_alloc]; omega)); clear hz1)
        | (go_at_call 15; refine (compare_any _ _ _ _ _).mono ?_; rintro e w' ⟨rfl, hk⟩; obtain ⟨hc1, hf1, hz1⟩ := kp_all hk; obtain ⟨l0, l1, l2⟩ := kp_lt3 (w := w) hk (by first | omega | (simp only [World.size_alloc]; omega)); clear hz1))
      go_ret
      exact ⟨rfl, by repeat (first | exact kp_refl _ | apply kp_drew | apply kp_alloc | refine kp_trans ?_ (by assumption))⟩
    · have hd : cmpP (ax, ay) (cx, cy) ≤ 0 := cmpP_trans (b := (ax, bY)) (by omega) (by omega)
      go_enter Try.func5, Try.ntmps5
      go_wp2_with (first
        | (go_at_call 11; refine (awake07_any _).mono ?_; rintro e w1 ⟨rfl, hk⟩; obtain ⟨hc1, hf1, hz1⟩ := kp_all hk; obtain ⟨l0, l1, l2⟩ := kp_lt3 (w := w) hk (by first | omega | (simp only [World.size_alloc]; omega)); clear hz1)
        | (go_at_call 15; refine (compare_any _ _ _ _ _).mono ?_; rintro e w' ⟨rfl, hk⟩; obtain ⟨hc1, hf1, hz1⟩ := kp_all hk; obtain ⟨l0, l1, l2⟩ := kp_lt3 (w := w) hk (by first | omega | (simp only [World.size_alloc]; omega)); clear hz1))
      go_ret
      exact ⟨rfl, by repeat (first | exact kp_refl _ | apply kp_drew | apply kp_alloc | refine kp_trans ?_ (by assumption))⟩

set_option maxHeartbeats 4000000 in
theorem pointOrder_walk (ax ay bx bY cx cy : Int) (w : World) : Calls Try.prog 5 #[pv ax ay, pv bx bY, pv cx cy] w fun e w' => e = .returned (.bool true) ∧ Kp w w' := by
  by_cases hab : (ax, ay) = ((bx, bY) : Pt)
  · obtain ⟨rfl, rfl⟩ : ax = bx ∧ ay = bY := by simpa using hab
    clear hab
    have h0 := cmpP_self (ax, ay)
    by_cases hc : 0 < cmpP (ax, ay) (cx, cy)
    · go_enter Try.func5, Try.ntmps5
      go_wp2_with (first
        | (go_at_call 11; refine (awake07_any _).mono ?_; rintro e w1 ⟨rfl, hk⟩; obtain ⟨hc1, hf1, hz1⟩ := kp_all hk; obtain ⟨l0, l1, l2⟩ := kp_lt3 (w := w) hk (by first | omega | (simp only [World.size_alloc]; omega)); clear hz1)
        | (go_at_call 15; refine (compare_any _ _ _ _ _).mono ?_; rintro e w' ⟨rfl, hk⟩; obtain ⟨hc1, hf1, hz1⟩ := kp_all hk; obtain ⟨l0, l1, l2⟩ := kp_lt3 (w := w) hk (by first | omega | (simp only [World.size_alloc]; omega)); clear hz1))
      go_ret
      exact ⟨rfl, by repeat (first | exact kp_refl _ | apply kp_drew | apply kp_alloc | refine kp_trans ?_ (by assumption))⟩
    · go_enter Try.func5, Try.ntmps5
      go_wp2_with (first
        | (go_at_call 11; refine (awake07_any _).mono ?_; rintro e w1 ⟨rfl, hk⟩; obtain ⟨hc1, hf1, hz1⟩ := kp_all hk; obtain ⟨l0, l1, l2⟩ := kp_lt3 (w := w) hk (by first | omega | (simp only [World.size_alloc]; omega)); clear hz1)
        | (go_at_call 15; refine (compare_any _ _ _ _ _).mono ?_; rintro e w' ⟨rfl, hk⟩; obtain ⟨hc1, hf1, hz1⟩ := kp_all hk; obtain ⟨l0, l1, l2⟩ := kp_lt3 (w := w) hk (by first | omega | (simp only [World.size_alloc]; omega)); clear hz1))
      go_ret
      exact ⟨rfl, by repeat (first | exact kp_refl _ | apply kp_drew | apply kp_alloc | refine kp_trans ?_ (by assumption))⟩
  · by_cases e : ax = bx
    · subst e
      exact order_ne2 ax ay bY cx cy w (by simp; intro e; exact hab (by rw [e]))
    · exact order_ne1 ax ay bx bY cx cy w (by simp [e])
end Go.Proofs.Ytjgphjhanoakkaa
