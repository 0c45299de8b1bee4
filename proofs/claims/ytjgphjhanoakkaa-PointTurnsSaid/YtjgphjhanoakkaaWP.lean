/- Contracts of the points' chapter alone: Compare, at, awake. -/
import Derived.Test.YtjgphjhanoakkaaW7
namespace Go.Proofs.Ytjgphjhanoakkaa
open Go.RowKit Go.Proofs.Geo

set_option maxHeartbeats 1000000 in
theorem compare_any (ax ay bx bY : Int) (w : World) : Calls Try.prog 15 #[pv ax ay, pv bx bY] w fun e w' => e = .returned (.int .i64 (cmpP (ax, ay) (bx, bY))) ∧ Kp w w' := by
  have H := Lib.hid (cmpP_or ax ay bx bY)
  go_enter Try.func15, Try.ntmps15
  go_wp2
  go_region_held3 (fun w' => Kp w w' ∧ w'.cell? ⟨w.heap.size, 0, none⟩ = some (.int .i64 ax) ∧ w'.cell? ⟨w.heap.size, 1, none⟩ = some (.int .i64 ay) ∧ w'.cell? ⟨w.heap.size + 1, 0, none⟩ = some (.int .i64 bx) ∧ w'.cell? ⟨w.heap.size + 1, 1, none⟩ = some (.int .i64 bY)) ((refine ⟨?_, ?_⟩; (repeat (first | assumption | exact kp_refl _ | apply kp_drew | apply kp_alloc)); (simp [*, World.cell?_alloc_some])))
    (first
      | (go_at_call 34; refine (cmpInt _ _ _).mono ?_; rintro e w' ⟨rfl, rfl⟩)
      | (go_at_call 33; refine (or_any _ (cmpI ay bY) (cmpI ax bx) _ ?_ ?_).mono ?_; (simp [go_sem]); (simp [go_sem]); rintro e w' ⟨rfl, rfl⟩))
  go_wp2
  go_ret
  exact ⟨ret_int H.out, by repeat (first | assumption | exact kp_refl _ | apply kp_drew | apply kp_alloc)⟩
theorem at07_any (x y : Int) (w : World) : Calls Try.prog 13 #[.int .i64 x, .int .i64 y] w fun e w' => e = .returned (pv x y) ∧ Kp w w' := by
  go_enter Try.func13, Try.ntmps13
  go_wp2
  exact bodyPost_ret (v := pv x y) (by simp [results, Try.results13, go_sem]) rfl ⟨rfl, kp_alloc (kp_refl _) _⟩

theorem eval_t1 : turn (0, 0) (4, 0) (1, 1) = 1 := by decide
theorem eval_t2 : turn (0, 0) (4, 0) (1, -1) = -1 := by decide
theorem eval_o1 : onS (2, 1) (0, 0) (4, 2) = true := by decide
theorem eval_c1 : cmpP (9, 1) (0, 2) = -1 := by decide

set_option maxHeartbeats 1000000 in
theorem awake07_any (w : World) : Calls Try.prog 11 #[] w fun e w' => e = .returned (.bool true) ∧ Kp w w' := by
  have h1 := eval_t1
  have h2 := eval_t2
  have h3 := eval_o1
  have h4 := eval_c1
  go_enter Try.func11, Try.ntmps11
  go_wp2_with (first
    | (go_at_call 13; refine (at07_any _ _ _).mono ?_; rintro e w' ⟨rfl, hk⟩)
    | (go_at_call 12; refine (turn_any _ _ _ _ _ _ _).mono ?_; rintro e w' ⟨rfl, hk⟩)
    | (go_at_call 14; refine (on_any _ _ _ _ _ _ _).mono ?_; rintro e w' ⟨rfl, hk⟩)
    | (go_at_call 15; refine (compare_any _ _ _ _ _).mono ?_; rintro e w' ⟨rfl, hk⟩))
  go_ret
  exact ⟨rfl, by repeat (first | exact kp_refl _ | apply kp_drew | apply kp_alloc | refine kp_trans ?_ (by assumption))⟩
end Go.Proofs.Ytjgphjhanoakkaa
