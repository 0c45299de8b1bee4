/- The walk of PointKnown. -/
import Derived.Test.YtjgphjhanoakkaaPM
import Derived.Test.YtjgphjhanoakkaaB2
import Derived.Test.YtjgphjhanoakkaaWP
namespace Go.Proofs.Ytjgphjhanoakkaa
open Go.RowKit Go.Proofs.Geo
theorem eval_k0 : turn (0, 0) (4, 0) (9, 0) = 0 := by decide
theorem eval_k1 : turn (0, 0) (4, 0) (1099511627776, 0) = 0 := by decide
theorem eval_k2 : onS (3, 1) (0, 0) (4, 2) = false := by decide
theorem eval_k3 : onS (6, 3) (0, 0) (4, 2) = false := by decide
theorem eval_k4 : onS (0, 0) (0, 0) (0, 0) = true := by decide
theorem eval_k5 : mvP (1, 2) (3, -4) = (4, -2) := by decide
theorem eval_k6 : mvE (1, 2) (3, -4) = 0 := by decide
theorem eval_k7 : bndB [(1, 2), (5, 0)] = (1, 0, 6, 3) := by decide
theorem eval_k8 : bndOk [(1, 2), (5, 0)] = true := by decide
theorem eval_k9 : cmpP (1, 1) (0, 1) = 1 := by decide
theorem eval_k10 : inBox (5, 2) 1 0 6 3 = true := by decide
theorem eval_k11 : inBox (6, 2) 1 0 6 3 = false := by decide
theorem eval_k12 : meetB (1, 0, 6, 3) (6, 0, 9, 9) = false := by decide
theorem move_known (w : World) : Calls Try.prog 16 #[pv 1 2, pv 3 (-4)] w fun e w' => e = .returned (.tuple #[pv 4 (-2), .int .i64 0]) ∧ Kp w w' := by
  refine (move_any 1 2 3 (-4) w).mono ?_
  rintro e w' ⟨rfl, hk⟩
  rw [eval_k5, eval_k6]; exact ⟨rfl, hk⟩
theorem bounds_known (v : Value) (w : World) (h : RdC w v [(1, 2), (5, 0)]) : Calls Try.prog 23 #[v] w fun e w' => e = .returned (.tuple #[.agg #[.int .i64 1, .int .i64 0, .int .i64 6, .int .i64 3], .bool true]) ∧ Kp w w' := by
  refine (bounds_rdC v _ w h).mono ?_
  rintro e w' ⟨rfl, hk⟩
  rw [eval_k7, eval_k8]; exact ⟨rfl, hk⟩
set_option maxHeartbeats 8000000 in
set_option maxRecDepth 100000 in
theorem pointKnown_walk (w : World) : Calls Try.prog 10 #[] w fun e w' => e = .returned (.bool true) ∧ Kp w w' := by
  have n0 := eval_k0
  have n1 := eval_k1
  have n2 := eval_k2
  have n3 := eval_k3
  have n4 := eval_k4
  have n9 := eval_k9
  have n10 := eval_k10
  have n11 := eval_k11
  have n12 := eval_k12
  have K : Kp w w := kp_refl w
  go_enter Try.func10, Try.ntmps10
  go_upto_region 2 with (first
    | (go_at_call 13; refine (at07_any _ _ _).mono ?_; rintro e w2 ⟨rfl, hk⟩; replace K : Kp w w2 := kp_trans (by repeat (first | exact K | apply kp_alloc | apply kp_drew | apply kp_drewN)) hk; clear hk)
    | (go_at_call 12; refine (turn_any _ _ _ _ _ _ _).mono ?_; rintro e w2 ⟨rfl, hk⟩; replace K : Kp w w2 := kp_trans (by repeat (first | exact K | apply kp_alloc | apply kp_drew | apply kp_drewN)) hk; clear hk)
    | (go_at_call 14; refine (on_any _ _ _ _ _ _ _).mono ?_; rintro e w2 ⟨rfl, hk⟩; replace K : Kp w w2 := kp_trans (by repeat (first | exact K | apply kp_alloc | apply kp_drew | apply kp_drewN)) hk; clear hk))
  go_upto_region 3 with (first
    | (go_at_call 13; refine (at07_any _ _ _).mono ?_; rintro e w2 ⟨rfl, hk⟩; replace K : Kp w w2 := kp_trans (by repeat (first | exact K | apply kp_alloc | apply kp_drew | apply kp_drewN)) hk; clear hk)
    | (go_at_call 16; refine (move_known _).mono ?_; rintro e wm ⟨rfl, hk⟩; replace K : Kp w wm := kp_trans (by repeat (first | exact K | apply kp_alloc | apply kp_drew | apply kp_drewN)) hk; clear hk))
  obtain ⟨W1, hW⟩ : ∃ W, (wm.alloc (.cells #[.int .i64 4, .int .i64 (-2)] 23)) = W := ⟨_, rfl⟩
  have p_0 : W1.cell? ⟨wm.heap.size, 0, none⟩ = some (.int .i64 4) := by rw [← hW]; simp [go_sem]
  have p_1 : W1.cell? ⟨wm.heap.size, 1, none⟩ = some (.int .i64 (-2)) := by rw [← hW]; simp [go_sem]
  replace K : Kp w W1 := by rw [← hW]; exact kp_alloc K _
  rw [hW]; clear hW
  have l_0 : wm.heap.size < W1.heap.size := cell_lt p_0
  go_upto_region 4 with (first
    | (go_at_call 13; refine (at07_any _ _ _).mono ?_; rintro e w2 ⟨rfl, hk⟩; replace p_0 : w2.cell? ⟨wm.heap.size, 0, none⟩ = some (.int .i64 4) := kp_cell hk (by first | exact p_0 | exact cell_a p_0 _ | exact cell_a (cell_a p_0 _) _ | exact cell_a (cell_a (cell_a p_0 _) _) _); replace p_1 : w2.cell? ⟨wm.heap.size, 1, none⟩ = some (.int .i64 (-2)) := kp_cell hk (by first | exact p_1 | exact cell_a p_1 _ | exact cell_a (cell_a p_1 _) _ | exact cell_a (cell_a (cell_a p_1 _) _) _); replace K : Kp w w2 := kp_trans (by repeat (first | exact K | apply kp_alloc | apply kp_drew | apply kp_drewN)) hk; replace l_0 : wm.heap.size < w2.heap.size := cell_lt p_0; clear hk)
    | (go_at_call 23; refine (bounds_known _ _ (Rd.toC (by exact rd_of (l := [(1, 2), (5, 0)]) (by simp) (by repeat (first | exact ptsAt_nil _ _ _ | (refine PtsAt.cons (by simp [go_sem]) (by simp [go_sem]) ?_)))))).mono ?_; rintro e wb ⟨rfl, hk⟩; replace p_0 : wb.cell? ⟨wm.heap.size, 0, none⟩ = some (.int .i64 4) := kp_cell hk (by first | exact p_0 | exact cell_a p_0 _ | exact cell_a (cell_a p_0 _) _ | exact cell_a (cell_a (cell_a p_0 _) _) _); replace p_1 : wb.cell? ⟨wm.heap.size, 1, none⟩ = some (.int .i64 (-2)) := kp_cell hk (by first | exact p_1 | exact cell_a p_1 _ | exact cell_a (cell_a p_1 _) _ | exact cell_a (cell_a (cell_a p_1 _) _) _); replace K : Kp w wb := kp_trans (by repeat (first | exact K | apply kp_alloc | apply kp_drew | apply kp_drewN)) hk; replace l_0 : wm.heap.size < wb.heap.size := cell_lt p_0; clear hk))
  obtain ⟨W2, hW⟩ : ∃ W, (wb.alloc (.cells #[.int .i64 1, .int .i64 0, .int .i64 6, .int .i64 3] 38)) = W := ⟨_, rfl⟩
  have x_0 : W2.cell? ⟨wb.heap.size, 0, none⟩ = some (.int .i64 1) := by rw [← hW]; simp [go_sem]
  have x_1 : W2.cell? ⟨wb.heap.size, 1, none⟩ = some (.int .i64 0) := by rw [← hW]; simp [go_sem]
  have x_2 : W2.cell? ⟨wb.heap.size, 2, none⟩ = some (.int .i64 6) := by rw [← hW]; simp [go_sem]
  have x_3 : W2.cell? ⟨wb.heap.size, 3, none⟩ = some (.int .i64 3) := by rw [← hW]; simp [go_sem]
  replace p_0 : W2.cell? ⟨wm.heap.size, 0, none⟩ = some (.int .i64 4) := by rw [← hW]; exact cell_a p_0 _
  replace p_1 : W2.cell? ⟨wm.heap.size, 1, none⟩ = some (.int .i64 (-2)) := by rw [← hW]; exact cell_a p_1 _
  replace K : Kp w W2 := by rw [← hW]; exact kp_alloc K _
  rw [hW]; clear hW
  have l_0 : wm.heap.size < W2.heap.size := cell_lt p_0
  have l_0 : wb.heap.size < W2.heap.size := cell_lt x_0
  go_region_held3 (fun w' => Kp w w' ∧ w'.cell? ⟨wm.heap.size, 0, none⟩ = some (.int .i64 4) ∧ w'.cell? ⟨wm.heap.size, 1, none⟩ = some (.int .i64 (-2)) ∧ w'.cell? ⟨wb.heap.size, 0, none⟩ = some (.int .i64 1) ∧ w'.cell? ⟨wb.heap.size, 1, none⟩ = some (.int .i64 0) ∧ w'.cell? ⟨wb.heap.size, 2, none⟩ = some (.int .i64 6) ∧ w'.cell? ⟨wb.heap.size, 3, none⟩ = some (.int .i64 3)) ((first | (with_reducible exact ⟨K, p_0, p_1, x_0, x_1, x_2, x_3⟩) | (with_reducible exact ⟨kp_drew K, cell_d p_0, cell_d p_1, cell_d x_0, cell_d x_1, cell_d x_2, cell_d x_3⟩) | (with_reducible exact ⟨kp_alloc K _, cell_a p_0 _, cell_a p_1 _, cell_a x_0 _, cell_a x_1 _, cell_a x_2 _, cell_a x_3 _⟩) | (with_reducible exact ⟨kp_alloc (kp_drew K) _, cell_a (cell_d p_0) _, cell_a (cell_d p_1) _, cell_a (cell_d x_0) _, cell_a (cell_d x_1) _, cell_a (cell_d x_2) _, cell_a (cell_d x_3) _⟩) | (with_reducible exact ⟨kp_alloc (kp_alloc K _) _, cell_a (cell_a p_0 _) _, cell_a (cell_a p_1 _) _, cell_a (cell_a x_0 _) _, cell_a (cell_a x_1 _) _, cell_a (cell_a x_2 _) _, cell_a (cell_a x_3 _) _⟩) | (with_reducible exact ⟨kp_alloc (kp_alloc (kp_drew K) _) _, cell_a (cell_a (cell_d p_0) _) _, cell_a (cell_a (cell_d p_1) _) _, cell_a (cell_a (cell_d x_0) _) _, cell_a (cell_a (cell_d x_1) _) _, cell_a (cell_a (cell_d x_2) _) _, cell_a (cell_a (cell_d x_3) _) _⟩)))
    (first
      | (go_at_call 13; refine (at07_any _ _ _).mono ?_; rintro e w2 ⟨rfl, hk⟩; replace p_0 : w2.cell? ⟨wm.heap.size, 0, none⟩ = some (.int .i64 4) := kp_cell hk (by first | exact p_0 | exact cell_a p_0 _ | exact cell_a (cell_a p_0 _) _ | exact cell_a (cell_a (cell_a p_0 _) _) _); replace p_1 : w2.cell? ⟨wm.heap.size, 1, none⟩ = some (.int .i64 (-2)) := kp_cell hk (by first | exact p_1 | exact cell_a p_1 _ | exact cell_a (cell_a p_1 _) _ | exact cell_a (cell_a (cell_a p_1 _) _) _); replace x_0 : w2.cell? ⟨wb.heap.size, 0, none⟩ = some (.int .i64 1) := kp_cell hk (by first | exact x_0 | exact cell_a x_0 _ | exact cell_a (cell_a x_0 _) _ | exact cell_a (cell_a (cell_a x_0 _) _) _); replace x_1 : w2.cell? ⟨wb.heap.size, 1, none⟩ = some (.int .i64 0) := kp_cell hk (by first | exact x_1 | exact cell_a x_1 _ | exact cell_a (cell_a x_1 _) _ | exact cell_a (cell_a (cell_a x_1 _) _) _); replace x_2 : w2.cell? ⟨wb.heap.size, 2, none⟩ = some (.int .i64 6) := kp_cell hk (by first | exact x_2 | exact cell_a x_2 _ | exact cell_a (cell_a x_2 _) _ | exact cell_a (cell_a (cell_a x_2 _) _) _); replace x_3 : w2.cell? ⟨wb.heap.size, 3, none⟩ = some (.int .i64 3) := kp_cell hk (by first | exact x_3 | exact cell_a x_3 _ | exact cell_a (cell_a x_3 _) _ | exact cell_a (cell_a (cell_a x_3 _) _) _); replace K : Kp w w2 := kp_trans (by repeat (first | exact K | apply kp_alloc | apply kp_drew | apply kp_drewN)) hk; replace l_0 : wm.heap.size < w2.heap.size := cell_lt p_0; replace l_0 : wb.heap.size < w2.heap.size := cell_lt x_0; clear hk)
      | (go_at_call 11; refine (awake07_any _).mono ?_; rintro e w2 ⟨rfl, hk⟩; replace p_0 : w2.cell? ⟨wm.heap.size, 0, none⟩ = some (.int .i64 4) := kp_cell hk (by first | exact p_0 | exact cell_a p_0 _ | exact cell_a (cell_a p_0 _) _ | exact cell_a (cell_a (cell_a p_0 _) _) _); replace p_1 : w2.cell? ⟨wm.heap.size, 1, none⟩ = some (.int .i64 (-2)) := kp_cell hk (by first | exact p_1 | exact cell_a p_1 _ | exact cell_a (cell_a p_1 _) _ | exact cell_a (cell_a (cell_a p_1 _) _) _); replace x_0 : w2.cell? ⟨wb.heap.size, 0, none⟩ = some (.int .i64 1) := kp_cell hk (by first | exact x_0 | exact cell_a x_0 _ | exact cell_a (cell_a x_0 _) _ | exact cell_a (cell_a (cell_a x_0 _) _) _); replace x_1 : w2.cell? ⟨wb.heap.size, 1, none⟩ = some (.int .i64 0) := kp_cell hk (by first | exact x_1 | exact cell_a x_1 _ | exact cell_a (cell_a x_1 _) _ | exact cell_a (cell_a (cell_a x_1 _) _) _); replace x_2 : w2.cell? ⟨wb.heap.size, 2, none⟩ = some (.int .i64 6) := kp_cell hk (by first | exact x_2 | exact cell_a x_2 _ | exact cell_a (cell_a x_2 _) _ | exact cell_a (cell_a (cell_a x_2 _) _) _); replace x_3 : w2.cell? ⟨wb.heap.size, 3, none⟩ = some (.int .i64 3) := kp_cell hk (by first | exact x_3 | exact cell_a x_3 _ | exact cell_a (cell_a x_3 _) _ | exact cell_a (cell_a (cell_a x_3 _) _) _); replace K : Kp w w2 := kp_trans (by repeat (first | exact K | apply kp_alloc | apply kp_drew | apply kp_drewN)) hk; replace l_0 : wm.heap.size < w2.heap.size := cell_lt p_0; replace l_0 : wb.heap.size < w2.heap.size := cell_lt x_0; clear hk)
      | (go_at_call 15; refine (compare_any _ _ _ _ _).mono ?_; rintro e w2 ⟨rfl, hk⟩; replace p_0 : w2.cell? ⟨wm.heap.size, 0, none⟩ = some (.int .i64 4) := kp_cell hk (by first | exact p_0 | exact cell_a p_0 _ | exact cell_a (cell_a p_0 _) _ | exact cell_a (cell_a (cell_a p_0 _) _) _); replace p_1 : w2.cell? ⟨wm.heap.size, 1, none⟩ = some (.int .i64 (-2)) := kp_cell hk (by first | exact p_1 | exact cell_a p_1 _ | exact cell_a (cell_a p_1 _) _ | exact cell_a (cell_a (cell_a p_1 _) _) _); replace x_0 : w2.cell? ⟨wb.heap.size, 0, none⟩ = some (.int .i64 1) := kp_cell hk (by first | exact x_0 | exact cell_a x_0 _ | exact cell_a (cell_a x_0 _) _ | exact cell_a (cell_a (cell_a x_0 _) _) _); replace x_1 : w2.cell? ⟨wb.heap.size, 1, none⟩ = some (.int .i64 0) := kp_cell hk (by first | exact x_1 | exact cell_a x_1 _ | exact cell_a (cell_a x_1 _) _ | exact cell_a (cell_a (cell_a x_1 _) _) _); replace x_2 : w2.cell? ⟨wb.heap.size, 2, none⟩ = some (.int .i64 6) := kp_cell hk (by first | exact x_2 | exact cell_a x_2 _ | exact cell_a (cell_a x_2 _) _ | exact cell_a (cell_a (cell_a x_2 _) _) _); replace x_3 : w2.cell? ⟨wb.heap.size, 3, none⟩ = some (.int .i64 3) := kp_cell hk (by first | exact x_3 | exact cell_a x_3 _ | exact cell_a (cell_a x_3 _) _ | exact cell_a (cell_a (cell_a x_3 _) _) _); replace K : Kp w w2 := kp_trans (by repeat (first | exact K | apply kp_alloc | apply kp_drew | apply kp_drewN)) hk; replace l_0 : wm.heap.size < w2.heap.size := cell_lt p_0; replace l_0 : wb.heap.size < w2.heap.size := cell_lt x_0; clear hk)
      | (go_at_call 26; refine (pin_any _ _ _ _ _ _ _).mono ?_; rintro e w2 ⟨rfl, hk⟩; replace p_0 : w2.cell? ⟨wm.heap.size, 0, none⟩ = some (.int .i64 4) := kp_cell hk (by first | exact p_0 | exact cell_a p_0 _ | exact cell_a (cell_a p_0 _) _ | exact cell_a (cell_a (cell_a p_0 _) _) _); replace p_1 : w2.cell? ⟨wm.heap.size, 1, none⟩ = some (.int .i64 (-2)) := kp_cell hk (by first | exact p_1 | exact cell_a p_1 _ | exact cell_a (cell_a p_1 _) _ | exact cell_a (cell_a (cell_a p_1 _) _) _); replace x_0 : w2.cell? ⟨wb.heap.size, 0, none⟩ = some (.int .i64 1) := kp_cell hk (by first | exact x_0 | exact cell_a x_0 _ | exact cell_a (cell_a x_0 _) _ | exact cell_a (cell_a (cell_a x_0 _) _) _); replace x_1 : w2.cell? ⟨wb.heap.size, 1, none⟩ = some (.int .i64 0) := kp_cell hk (by first | exact x_1 | exact cell_a x_1 _ | exact cell_a (cell_a x_1 _) _ | exact cell_a (cell_a (cell_a x_1 _) _) _); replace x_2 : w2.cell? ⟨wb.heap.size, 2, none⟩ = some (.int .i64 6) := kp_cell hk (by first | exact x_2 | exact cell_a x_2 _ | exact cell_a (cell_a x_2 _) _ | exact cell_a (cell_a (cell_a x_2 _) _) _); replace x_3 : w2.cell? ⟨wb.heap.size, 3, none⟩ = some (.int .i64 3) := kp_cell hk (by first | exact x_3 | exact cell_a x_3 _ | exact cell_a (cell_a x_3 _) _ | exact cell_a (cell_a (cell_a x_3 _) _) _); replace K : Kp w w2 := kp_trans (by repeat (first | exact K | apply kp_alloc | apply kp_drew | apply kp_drewN)) hk; replace l_0 : wm.heap.size < w2.heap.size := cell_lt p_0; replace l_0 : wb.heap.size < w2.heap.size := cell_lt x_0; clear hk)
      | (go_at_call 28; refine (pmeet_any _ _ _ _ _ _ _ _ _).mono ?_; rintro e w2 ⟨rfl, hk⟩; replace p_0 : w2.cell? ⟨wm.heap.size, 0, none⟩ = some (.int .i64 4) := kp_cell hk (by first | exact p_0 | exact cell_a p_0 _ | exact cell_a (cell_a p_0 _) _ | exact cell_a (cell_a (cell_a p_0 _) _) _); replace p_1 : w2.cell? ⟨wm.heap.size, 1, none⟩ = some (.int .i64 (-2)) := kp_cell hk (by first | exact p_1 | exact cell_a p_1 _ | exact cell_a (cell_a p_1 _) _ | exact cell_a (cell_a (cell_a p_1 _) _) _); replace x_0 : w2.cell? ⟨wb.heap.size, 0, none⟩ = some (.int .i64 1) := kp_cell hk (by first | exact x_0 | exact cell_a x_0 _ | exact cell_a (cell_a x_0 _) _ | exact cell_a (cell_a (cell_a x_0 _) _) _); replace x_1 : w2.cell? ⟨wb.heap.size, 1, none⟩ = some (.int .i64 0) := kp_cell hk (by first | exact x_1 | exact cell_a x_1 _ | exact cell_a (cell_a x_1 _) _ | exact cell_a (cell_a (cell_a x_1 _) _) _); replace x_2 : w2.cell? ⟨wb.heap.size, 2, none⟩ = some (.int .i64 6) := kp_cell hk (by first | exact x_2 | exact cell_a x_2 _ | exact cell_a (cell_a x_2 _) _ | exact cell_a (cell_a (cell_a x_2 _) _) _); replace x_3 : w2.cell? ⟨wb.heap.size, 3, none⟩ = some (.int .i64 3) := kp_cell hk (by first | exact x_3 | exact cell_a x_3 _ | exact cell_a (cell_a x_3 _) _ | exact cell_a (cell_a (cell_a x_3 _) _) _); replace K : Kp w w2 := kp_trans (by repeat (first | exact K | apply kp_alloc | apply kp_drew | apply kp_drewN)) hk; replace l_0 : wm.heap.size < w2.heap.size := cell_lt p_0; replace l_0 : wb.heap.size < w2.heap.size := cell_lt x_0; clear hk))
  all_goals go_wp2_with fail
  all_goals go_ret
  all_goals exact ⟨rfl, K⟩
end Go.Proofs.Ytjgphjhanoakkaa
