/- Contracts: at, between, On, awake (of the points' chapter). -/
import Derived.Test.YtjgphjhanoakkaaW6
namespace Go.Proofs.Ytjgphjhanoakkaa
open Go.RowKit Go.Proofs.Geo

theorem kp_all {w w' : World} (h : Kp w w') : (∀ b o, b < w.heap.size → w'.cell? ⟨b, o, none⟩ = w.cell? ⟨b, o, none⟩) ∧ (∀ b o, b < w.heap.size → w'.frozen? ⟨b, o, none⟩ = w.frozen? ⟨b, o, none⟩) ∧ w.heap.size ≤ w'.heap.size :=
  ⟨fun b o k => Below.cell (p := ⟨b, o, none⟩) h k, fun b o k => Below.frozen (p := ⟨b, o, none⟩) h k, Below.size h⟩

/-- Old blocks lie below the new world's end. -/
theorem kp_lt2 {w W w' : World} (h : Kp W w') (hs : w.heap.size + 2 ≤ W.heap.size) : w.heap.size < w'.heap.size ∧ w.heap.size + 1 < w'.heap.size := by
  have := Below.size h; omega
theorem kp_lt3 {w W w' : World} (h : Kp W w') (hs : w.heap.size + 3 ≤ W.heap.size) : w.heap.size < w'.heap.size ∧ w.heap.size + 1 < w'.heap.size ∧ w.heap.size + 1 + 1 < w'.heap.size := by
  have := Below.size h; omega
theorem kp_lt4 {w W w' : World} (h : Kp W w') (hs : w.heap.size + 4 ≤ W.heap.size) : w.heap.size < w'.heap.size ∧ w.heap.size + 1 < w'.heap.size ∧ w.heap.size + 1 + 1 < w'.heap.size ∧ w.heap.size + 1 + 1 + 1 < w'.heap.size := by
  have := Below.size h; omega

theorem at07_any (x y : Int) (w : World) : Calls Try.prog 13 #[.int .i64 x, .int .i64 y] w fun e w' => e = .returned (pv x y) ∧ Kp w w' := by
  go_enter Try.func13, Try.ntmps13
  go_wp2
  exact bodyPost_ret (v := pv x y) (by simp [results, Try.results13, go_sem]) rfl ⟨rfl, kp_alloc (kp_refl _) _⟩

theorem between_any (n a b : Int) (w : World) : Calls Try.prog 32 #[.int .i64 n, .int .i64 a, .int .i64 b] w fun e w' => e = .returned (.bool (btw n a b)) ∧ w = w' := by
  go_enter Try.func32, Try.ntmps32
  go_wp2
  all_goals
    go_ret
    exact ⟨ret_bool (by rw [Bool.eq_iff_iff, btw_iff]; simp; omega), rfl⟩

theorem onS_steps {px py ax ay bx bY : Int} : onS (px, py) (ax, ay) (bx, bY) = ((okP (px, py) && okP (ax, ay) && okP (bx, bY)) && btw px ax bx && btw py ay bY && (turn (ax, ay) (bx, bY) (px, py) == 0)) := by
  unfold onS; rw [Bool.eq_iff_iff]; simp

set_option maxHeartbeats 1000000 in
theorem on_any (px py ax ay bx bY : Int) (w : World) : Calls Try.prog 14 #[pv px py, pv ax ay, pv bx bY] w fun e w' =>
    e = .returned (.bool (onS (px, py) (ax, ay) (bx, bY))) ∧ Kp w w' := by
  have HS := Lib.hid (onS_steps (px := px) (py := py) (ax := ax) (ay := ay) (bx := bx) (bY := bY))
  cases h : (okP (px, py) && okP (ax, ay) && okP (bx, bY))
  · have H := Lib.hid h
    go_enter Try.func14, Try.ntmps14
    go_wp2_with (go_at_call 30; refine (valid3 _ (px, py) (ax, ay) (bx, bY) _ ?_ ?_ ?_ ?_ ?_ ?_).mono ?_; (iterate 6 (focus (simp [go_sem]))); rintro e w' ⟨rfl, hk1⟩)
    go_ret
    exact ⟨ret_bool (by rw [HS.out, H.out]; rfl), by repeat (first | exact kp_refl _ | apply kp_drew | apply kp_alloc | refine kp_trans ?_ hk1)⟩
  · have H := Lib.hid h
    cases h1 : btw px ax bx
    · have H1 := Lib.hid h1
      go_enter Try.func14, Try.ntmps14
      go_wp2_with (first
        | (go_at_call 30; refine (valid3 _ (px, py) (ax, ay) (bx, bY) _ ?_ ?_ ?_ ?_ ?_ ?_).mono ?_; (iterate 6 (focus (simp [go_sem]))); rintro e w' ⟨rfl, hk1⟩; obtain ⟨hc1, hf1, hz1⟩ := kp_all hk1)
        | (go_at_call 32; refine (between_any _ _ _ _).mono ?_; rintro e w' ⟨rfl, rfl⟩))
      go_ret
      exact ⟨ret_bool (by rw [HS.out, H.out, H1.out]; rfl), by repeat (first | exact kp_refl _ | apply kp_drew | apply kp_alloc | refine kp_trans ?_ hk1)⟩
    · have H1 := Lib.hid h1
      cases h2 : btw py ay bY
      · have H2 := Lib.hid h2
        go_enter Try.func14, Try.ntmps14
        go_wp2_with (first
          | (go_at_call 30; refine (valid3 _ (px, py) (ax, ay) (bx, bY) _ ?_ ?_ ?_ ?_ ?_ ?_).mono ?_; (iterate 6 (focus (simp [go_sem]))); rintro e w' ⟨rfl, hk1⟩; obtain ⟨hc1, hf1, hz1⟩ := kp_all hk1)
          | (go_at_call 32; refine (between_any _ _ _ _).mono ?_; rintro e w' ⟨rfl, rfl⟩))
        go_ret
        exact ⟨ret_bool (by rw [HS.out, H.out, H1.out, H2.out]; rfl), by repeat (first | exact kp_refl _ | apply kp_drew | apply kp_alloc | refine kp_trans ?_ hk1)⟩
      · have H2 := Lib.hid h2
        go_enter Try.func14, Try.ntmps14
        go_wp2_with (first
          | (go_at_call 30; refine (valid3 _ (px, py) (ax, ay) (bx, bY) _ ?_ ?_ ?_ ?_ ?_ ?_).mono ?_; (iterate 6 (focus (simp [go_sem]))); rintro e w' ⟨rfl, hk1⟩; obtain ⟨hc1, hf1, hz1⟩ := kp_all hk1)
          | (go_at_call 32; refine (between_any _ _ _ _).mono ?_; rintro e w' ⟨rfl, rfl⟩)
          | (go_at_call 12; refine (turn_any _ _ _ _ _ _ _).mono ?_; rintro e w' ⟨rfl, hk2⟩))
        go_ret
        exact ⟨ret_bool (by rw [HS.out, H.out, H1.out, H2.out]; simp), by repeat (first | exact kp_refl _ | apply kp_drew | apply kp_alloc | refine kp_trans ?_ hk2 | refine kp_trans ?_ hk1)⟩

theorem eval_t1 : turn (0, 0) (4, 0) (1, 1) = 1 := by decide
theorem eval_t2 : turn (0, 0) (4, 0) (1, -1) = -1 := by decide
theorem eval_o1 : onS (2, 1) (0, 0) (4, 2) = true := by decide
theorem eval_c1 : cmpP (9, 1) (0, 2) = -1 := by decide

set_option maxHeartbeats 1000000 in
theorem awake07_any (w : World) : Calls Try.prog 11 #[] w fun e w' => e = .returned (.bool true) ∧ Kp w w' := by
  have h1 := eval_t1
  have h2 := eval_t2
  have h3 := eval_o1
  have h4 := eval_c1
  go_enter Try.func11, Try.ntmps11
  go_wp2_with (first
    | (go_at_call 13; refine (at07_any _ _ _).mono ?_; rintro e w' ⟨rfl, hk⟩)
    | (go_at_call 12; refine (turn_any _ _ _ _ _ _ _).mono ?_; rintro e w' ⟨rfl, hk⟩)
    | (go_at_call 14; refine (on_any _ _ _ _ _ _ _).mono ?_; rintro e w' ⟨rfl, hk⟩)
    | (go_at_call 15; refine (compare_any _ _ _ _ _).mono ?_; rintro e w' ⟨rfl, hk⟩))
  go_ret
  exact ⟨rfl, by repeat (first | exact kp_refl _ | apply kp_drew | apply kp_alloc | refine kp_trans ?_ (by assumption))⟩
end Go.Proofs.Ytjgphjhanoakkaa
