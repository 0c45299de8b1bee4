/- Contracts: Compare, of the program and of the reference. -/
import Derived.Test.YtcpbemoiodbliaaMW
import Derived.Test.YtcpbemoiodbliaaV0
namespace Go.Proofs.Ytcpbemoiodbliaa
open Go.RowKit Go.Proofs.Geo
set_option maxHeartbeats 1000000 in
theorem compare_any (ax ay bx bY : Int) (w : World) : Calls Try.prog 31 #[pv ax ay, pv bx bY] w fun e w' => e = .returned (.int .i64 (cmpP (ax, ay) (bx, bY))) ∧ Kp w w' := by
  have H := Lib.hid (cmpP_or ax ay bx bY)
  go_enter Try.func31, Try.ntmps31
  go_wp2
  go_region_held3 (fun w' => Kp w w' ∧ w'.cell? ⟨w.heap.size, 0, none⟩ = some (.int .i64 ax) ∧ w'.cell? ⟨w.heap.size, 1, none⟩ = some (.int .i64 ay) ∧ w'.cell? ⟨w.heap.size + 1, 0, none⟩ = some (.int .i64 bx) ∧ w'.cell? ⟨w.heap.size + 1, 1, none⟩ = some (.int .i64 bY)) ((refine ⟨?_, ?_⟩; (repeat (first | assumption | exact kp_refl _ | apply kp_drew | apply kp_alloc)); (simp [*, World.cell?_alloc_some])))
    (first
      | (go_at_call 57; refine (cmpInt _ _ _).mono ?_; rintro e w' ⟨rfl, rfl⟩)
      | (go_at_call 56; refine (or_any _ (cmpI ay bY) (cmpI ax bx) _ ?_ ?_).mono ?_; (simp [go_sem]); (simp [go_sem]); rintro e w' ⟨rfl, rfl⟩))
  go_wp2
  go_ret
  exact ⟨ret_int H.out, by repeat (first | assumption | exact kp_refl _ | apply kp_drew | apply kp_alloc)⟩
set_option maxHeartbeats 8000000 in
set_option maxRecDepth 100000 in
theorem rcompare_any (ax ay bx bY : Int) (w : World) : Calls Try.prog 71 #[pv ax ay, pv bx bY] w fun e w' => e = .returned (.int .i64 (cmpP (ax, ay) (bx, bY))) ∧ Kp w w' := by
  rcases Int.lt_trichotomy ay bY with h | h | h
  · have H := Lib.hid (show -1 = cmpP (ax, ay) (bx, bY) by unfold cmpP; simp only; (repeat' split) <;> omega)
    go_enter Try.func71, Try.ntmps71
    go_upto_region 1 with fail
    obtain ⟨W, hW⟩ : ∃ W, ((w.alloc (.cells #[.int .i64 ax, .int .i64 ay] 25)).alloc (.cells #[.int .i64 bx, .int .i64 bY] 25)) = W := ⟨_, rfl⟩
    have c0_0 : W.cell? ⟨w.heap.size, 0, none⟩ = some (.int .i64 ax) := by rw [← hW]; simp [go_sem]
    have c0_1 : W.cell? ⟨w.heap.size, 1, none⟩ = some (.int .i64 ay) := by rw [← hW]; simp [go_sem]
    have c1_0 : W.cell? ⟨w.heap.size + 1, 0, none⟩ = some (.int .i64 bx) := by rw [← hW]; simp [go_sem]
    have c1_1 : W.cell? ⟨w.heap.size + 1, 1, none⟩ = some (.int .i64 bY) := by rw [← hW]; simp [go_sem]
    have K : Kp w W := by rw [← hW]; exact kp_alloc (kp_alloc (kp_refl _) _) _
    have l0_0 : w.heap.size < W.heap.size := cell_lt c0_0
    have l1_0 : w.heap.size + 1 < W.heap.size := cell_lt c1_0
    rw [hW]; clear hW
    go_wp2_with fail
    go_ret
    exact ⟨ret_int H.out, K⟩
  · subst h
    rcases Int.lt_trichotomy ax bx with h | h | h
    · have H := Lib.hid (show -1 = cmpP (ax, ay) (bx, ay) by unfold cmpP; simp only; (repeat' split) <;> omega)
      go_enter Try.func71, Try.ntmps71
      go_upto_region 1 with fail
      obtain ⟨W, hW⟩ : ∃ W, ((w.alloc (.cells #[.int .i64 ax, .int .i64 ay] 25)).alloc (.cells #[.int .i64 bx, .int .i64 ay] 25)) = W := ⟨_, rfl⟩
      have c0_0 : W.cell? ⟨w.heap.size, 0, none⟩ = some (.int .i64 ax) := by rw [← hW]; simp [go_sem]
      have c0_1 : W.cell? ⟨w.heap.size, 1, none⟩ = some (.int .i64 ay) := by rw [← hW]; simp [go_sem]
      have c1_0 : W.cell? ⟨w.heap.size + 1, 0, none⟩ = some (.int .i64 bx) := by rw [← hW]; simp [go_sem]
      have c1_1 : W.cell? ⟨w.heap.size + 1, 1, none⟩ = some (.int .i64 ay) := by rw [← hW]; simp [go_sem]
      have K : Kp w W := by rw [← hW]; exact kp_alloc (kp_alloc (kp_refl _) _) _
      have l0_0 : w.heap.size < W.heap.size := cell_lt c0_0
      have l1_0 : w.heap.size + 1 < W.heap.size := cell_lt c1_0
      rw [hW]; clear hW
      go_wp2_with fail
      go_ret
      exact ⟨ret_int H.out, K⟩
    · subst h
      have H := Lib.hid (show 0 = cmpP (ax, ay) (ax, ay) by unfold cmpP; simp only; (repeat' split) <;> omega)
      go_enter Try.func71, Try.ntmps71
      go_upto_region 1 with fail
      obtain ⟨W, hW⟩ : ∃ W, ((w.alloc (.cells #[.int .i64 ax, .int .i64 ay] 25)).alloc (.cells #[.int .i64 ax, .int .i64 ay] 25)) = W := ⟨_, rfl⟩
      have c0_0 : W.cell? ⟨w.heap.size, 0, none⟩ = some (.int .i64 ax) := by rw [← hW]; simp [go_sem]
      have c0_1 : W.cell? ⟨w.heap.size, 1, none⟩ = some (.int .i64 ay) := by rw [← hW]; simp [go_sem]
      have c1_0 : W.cell? ⟨w.heap.size + 1, 0, none⟩ = some (.int .i64 ax) := by rw [← hW]; simp [go_sem]
      have c1_1 : W.cell? ⟨w.heap.size + 1, 1, none⟩ = some (.int .i64 ay) := by rw [← hW]; simp [go_sem]
      have K : Kp w W := by rw [← hW]; exact kp_alloc (kp_alloc (kp_refl _) _) _
      have l0_0 : w.heap.size < W.heap.size := cell_lt c0_0
      have l1_0 : w.heap.size + 1 < W.heap.size := cell_lt c1_0
      rw [hW]; clear hW
      go_wp2_with fail
      go_ret
      exact ⟨ret_int H.out, K⟩
    · have H := Lib.hid (show 1 = cmpP (ax, ay) (bx, ay) by unfold cmpP; simp only; (repeat' split) <;> omega)
      have n1 : (ax == bx) = false := by simp; omega
      go_enter Try.func71, Try.ntmps71
      go_upto_region 1 with fail
      obtain ⟨W, hW⟩ : ∃ W, ((w.alloc (.cells #[.int .i64 ax, .int .i64 ay] 25)).alloc (.cells #[.int .i64 bx, .int .i64 ay] 25)) = W := ⟨_, rfl⟩
      have c0_0 : W.cell? ⟨w.heap.size, 0, none⟩ = some (.int .i64 ax) := by rw [← hW]; simp [go_sem]
      have c0_1 : W.cell? ⟨w.heap.size, 1, none⟩ = some (.int .i64 ay) := by rw [← hW]; simp [go_sem]
      have c1_0 : W.cell? ⟨w.heap.size + 1, 0, none⟩ = some (.int .i64 bx) := by rw [← hW]; simp [go_sem]
      have c1_1 : W.cell? ⟨w.heap.size + 1, 1, none⟩ = some (.int .i64 ay) := by rw [← hW]; simp [go_sem]
      have K : Kp w W := by rw [← hW]; exact kp_alloc (kp_alloc (kp_refl _) _) _
      have l0_0 : w.heap.size < W.heap.size := cell_lt c0_0
      have l1_0 : w.heap.size + 1 < W.heap.size := cell_lt c1_0
      rw [hW]; clear hW
      go_wp2_with fail
      go_ret
      exact ⟨ret_int H.out, K⟩
  · have H := Lib.hid (show 1 = cmpP (ax, ay) (bx, bY) by unfold cmpP; simp only; (repeat' split) <;> omega)
    have n1 : (ay == bY) = false := by simp; omega
    go_enter Try.func71, Try.ntmps71
    go_upto_region 1 with fail
    obtain ⟨W, hW⟩ : ∃ W, ((w.alloc (.cells #[.int .i64 ax, .int .i64 ay] 25)).alloc (.cells #[.int .i64 bx, .int .i64 bY] 25)) = W := ⟨_, rfl⟩
    have c0_0 : W.cell? ⟨w.heap.size, 0, none⟩ = some (.int .i64 ax) := by rw [← hW]; simp [go_sem]
    have c0_1 : W.cell? ⟨w.heap.size, 1, none⟩ = some (.int .i64 ay) := by rw [← hW]; simp [go_sem]
    have c1_0 : W.cell? ⟨w.heap.size + 1, 0, none⟩ = some (.int .i64 bx) := by rw [← hW]; simp [go_sem]
    have c1_1 : W.cell? ⟨w.heap.size + 1, 1, none⟩ = some (.int .i64 bY) := by rw [← hW]; simp [go_sem]
    have K : Kp w W := by rw [← hW]; exact kp_alloc (kp_alloc (kp_refl _) _) _
    have l0_0 : w.heap.size < W.heap.size := cell_lt c0_0
    have l1_0 : w.heap.size + 1 < W.heap.size := cell_lt c1_0
    rw [hW]; clear hW
    go_wp2_with fail
    go_ret
    exact ⟨ret_int H.out, K⟩
end Go.Proofs.Ytcpbemoiodbliaa
