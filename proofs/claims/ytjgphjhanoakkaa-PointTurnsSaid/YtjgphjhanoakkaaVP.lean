/- Contracts of the reference's points: Compare, Move. -/
import Derived.Test.YtjgphjhanoakkaaV0
import Derived.Test.YtjgphjhanoakkaaW8
namespace Go.Proofs.Ytjgphjhanoakkaa
open Go.RowKit Go.Proofs.Geo
set_option maxHeartbeats 8000000 in
set_option maxRecDepth 100000 in
theorem rcompare_any (ax ay bx bY : Int) (w : World) : Calls Try.prog 20 #[pv ax ay, pv bx bY] w fun e w' => e = .returned (.int .i64 (cmpP (ax, ay) (bx, bY))) ∧ Kp w w' := by
  rcases Int.lt_trichotomy ay bY with h | h | h
  · have H := Lib.hid (show -1 = cmpP (ax, ay) (bx, bY) by unfold cmpP; simp only; (repeat' split) <;> omega)
    go_enter Try.func20, Try.ntmps20
    go_upto_region 1 with fail
    obtain ⟨W, hW⟩ : ∃ W, ((w.alloc (.cells #[.int .i64 ax, .int .i64 ay] 23)).alloc (.cells #[.int .i64 bx, .int .i64 bY] 23)) = W := ⟨_, rfl⟩
    have c0_0 : W.cell? ⟨w.heap.size, 0, none⟩ = some (.int .i64 ax) := by rw [← hW]; simp [go_sem]
    have c0_1 : W.cell? ⟨w.heap.size, 1, none⟩ = some (.int .i64 ay) := by rw [← hW]; simp [go_sem]
    have c1_0 : W.cell? ⟨w.heap.size + 1, 0, none⟩ = some (.int .i64 bx) := by rw [← hW]; simp [go_sem]
    have c1_1 : W.cell? ⟨w.heap.size + 1, 1, none⟩ = some (.int .i64 bY) := by rw [← hW]; simp [go_sem]
    have K : Kp w W := by rw [← hW]; exact kp_alloc (kp_alloc (kp_refl _) _) _
    have l0_0 : w.heap.size < W.heap.size := cell_lt c0_0
    have l1_0 : w.heap.size + 1 < W.heap.size := cell_lt c1_0
    rw [hW]; clear hW
    go_wp2_with fail
    go_ret
    exact ⟨ret_int H.out, K⟩
  · subst h
    rcases Int.lt_trichotomy ax bx with h | h | h
    · have H := Lib.hid (show -1 = cmpP (ax, ay) (bx, ay) by unfold cmpP; simp only; (repeat' split) <;> omega)
      go_enter Try.func20, Try.ntmps20
      go_upto_region 1 with fail
      obtain ⟨W, hW⟩ : ∃ W, ((w.alloc (.cells #[.int .i64 ax, .int .i64 ay] 23)).alloc (.cells #[.int .i64 bx, .int .i64 ay] 23)) = W := ⟨_, rfl⟩
      have c0_0 : W.cell? ⟨w.heap.size, 0, none⟩ = some (.int .i64 ax) := by rw [← hW]; simp [go_sem]
      have c0_1 : W.cell? ⟨w.heap.size, 1, none⟩ = some (.int .i64 ay) := by rw [← hW]; simp [go_sem]
      have c1_0 : W.cell? ⟨w.heap.size + 1, 0, none⟩ = some (.int .i64 bx) := by rw [← hW]; simp [go_sem]
      have c1_1 : W.cell? ⟨w.heap.size + 1, 1, none⟩ = some (.int .i64 ay) := by rw [← hW]; simp [go_sem]
      have K : Kp w W := by rw [← hW]; exact kp_alloc (kp_alloc (kp_refl _) _) _
      have l0_0 : w.heap.size < W.heap.size := cell_lt c0_0
      have l1_0 : w.heap.size + 1 < W.heap.size := cell_lt c1_0
      rw [hW]; clear hW
      go_wp2_with fail
      go_ret
      exact ⟨ret_int H.out, K⟩
    · subst h
      have H := Lib.hid (show 0 = cmpP (ax, ay) (ax, ay) by unfold cmpP; simp only; (repeat' split) <;> omega)
      go_enter Try.func20, Try.ntmps20
      go_upto_region 1 with fail
      obtain ⟨W, hW⟩ : ∃ W, ((w.alloc (.cells #[.int .i64 ax, .int .i64 ay] 23)).alloc (.cells #[.int .i64 ax, .int .i64 ay] 23)) = W := ⟨_, rfl⟩
      have c0_0 : W.cell? ⟨w.heap.size, 0, none⟩ = some (.int .i64 ax) := by rw [← hW]; simp [go_sem]
      have c0_1 : W.cell? ⟨w.heap.size, 1, none⟩ = some (.int .i64 ay) := by rw [← hW]; simp [go_sem]
      have c1_0 : W.cell? ⟨w.heap.size + 1, 0, none⟩ = some (.int .i64 ax) := by rw [← hW]; simp [go_sem]
      have c1_1 : W.cell? ⟨w.heap.size + 1, 1, none⟩ = some (.int .i64 ay) := by rw [← hW]; simp [go_sem]
      have K : Kp w W := by rw [← hW]; exact kp_alloc (kp_alloc (kp_refl _) _) _
      have l0_0 : w.heap.size < W.heap.size := cell_lt c0_0
      have l1_0 : w.heap.size + 1 < W.heap.size := cell_lt c1_0
      rw [hW]; clear hW
      go_wp2_with fail
      go_ret
      exact ⟨ret_int H.out, K⟩
    · have H := Lib.hid (show 1 = cmpP (ax, ay) (bx, ay) by unfold cmpP; simp only; (repeat' split) <;> omega)
      have n1 : (ax == bx) = false := by simp; omega
      go_enter Try.func20, Try.ntmps20
      go_upto_region 1 with fail
      obtain ⟨W, hW⟩ : ∃ W, ((w.alloc (.cells #[.int .i64 ax, .int .i64 ay] 23)).alloc (.cells #[.int .i64 bx, .int .i64 ay] 23)) = W := ⟨_, rfl⟩
      have c0_0 : W.cell? ⟨w.heap.size, 0, none⟩ = some (.int .i64 ax) := by rw [← hW]; simp [go_sem]
      have c0_1 : W.cell? ⟨w.heap.size, 1, none⟩ = some (.int .i64 ay) := by rw [← hW]; simp [go_sem]
      have c1_0 : W.cell? ⟨w.heap.size + 1, 0, none⟩ = some (.int .i64 bx) := by rw [← hW]; simp [go_sem]
      have c1_1 : W.cell? ⟨w.heap.size + 1, 1, none⟩ = some (.int .i64 ay) := by rw [← hW]; simp [go_sem]
      have K : Kp w W := by rw [← hW]; exact kp_alloc (kp_alloc (kp_refl _) _) _
      have l0_0 : w.heap.size < W.heap.size := cell_lt c0_0
      have l1_0 : w.heap.size + 1 < W.heap.size := cell_lt c1_0
      rw [hW]; clear hW
      go_wp2_with fail
      go_ret
      exact ⟨ret_int H.out, K⟩
  · have H := Lib.hid (show 1 = cmpP (ax, ay) (bx, bY) by unfold cmpP; simp only; (repeat' split) <;> omega)
    have n1 : (ay == bY) = false := by simp; omega
    go_enter Try.func20, Try.ntmps20
    go_upto_region 1 with fail
    obtain ⟨W, hW⟩ : ∃ W, ((w.alloc (.cells #[.int .i64 ax, .int .i64 ay] 23)).alloc (.cells #[.int .i64 bx, .int .i64 bY] 23)) = W := ⟨_, rfl⟩
    have c0_0 : W.cell? ⟨w.heap.size, 0, none⟩ = some (.int .i64 ax) := by rw [← hW]; simp [go_sem]
    have c0_1 : W.cell? ⟨w.heap.size, 1, none⟩ = some (.int .i64 ay) := by rw [← hW]; simp [go_sem]
    have c1_0 : W.cell? ⟨w.heap.size + 1, 0, none⟩ = some (.int .i64 bx) := by rw [← hW]; simp [go_sem]
    have c1_1 : W.cell? ⟨w.heap.size + 1, 1, none⟩ = some (.int .i64 bY) := by rw [← hW]; simp [go_sem]
    have K : Kp w W := by rw [← hW]; exact kp_alloc (kp_alloc (kp_refl _) _) _
    have l0_0 : w.heap.size < W.heap.size := cell_lt c0_0
    have l1_0 : w.heap.size + 1 < W.heap.size := cell_lt c1_0
    rw [hW]; clear hW
    go_wp2_with fail
    go_ret
    exact ⟨ret_int H.out, K⟩
set_option maxHeartbeats 8000000 in
set_option maxRecDepth 100000 in
theorem rmove_any (ax ay bx bY : Int) (w : World) : Calls Try.prog 17 #[pv ax ay, pv bx bY] w fun e w' =>
    e = .returned (.tuple #[pv (mvP (ax, ay) (bx, bY)).1 (mvP (ax, ay) (bx, bY)).2, .int .i64 (mvE (ax, ay) (bx, bY))]) ∧ Kp w w' := by
  cases ha : okP (ax, ay)
  · have H1 := Lib.hid (mvP_no (p := (ax, ay)) (d := (bx, bY)) (by rw [ha]; rfl))
    have H2 := Lib.hid (mvE_no (p := (ax, ay)) (d := (bx, bY)) (by rw [ha]; rfl))
    go_enter Try.func17, Try.ntmps17
    go_upto_region 1 with fail
    obtain ⟨W, hW⟩ : ∃ W, (((w.alloc (.cells #[.int .i64 ax, .int .i64 ay] 23)).alloc (.cells #[.int .i64 bx, .int .i64 bY] 23)).alloc (.cells #[.int .i64 0, .int .i64 0] 23)) = W := ⟨_, rfl⟩
    have c0_0 : W.cell? ⟨w.heap.size, 0, none⟩ = some (.int .i64 ax) := by rw [← hW]; simp [go_sem]
    have c0_1 : W.cell? ⟨w.heap.size, 1, none⟩ = some (.int .i64 ay) := by rw [← hW]; simp [go_sem]
    have c1_0 : W.cell? ⟨w.heap.size + 1, 0, none⟩ = some (.int .i64 bx) := by rw [← hW]; simp [go_sem]
    have c1_1 : W.cell? ⟨w.heap.size + 1, 1, none⟩ = some (.int .i64 bY) := by rw [← hW]; simp [go_sem]
    have c2_0 : W.cell? ⟨w.heap.size + 1 + 1, 0, none⟩ = some (.int .i64 0) := by rw [← hW]; simp [go_sem]
    have c2_1 : W.cell? ⟨w.heap.size + 1 + 1, 1, none⟩ = some (.int .i64 0) := by rw [← hW]; simp [go_sem]
    have f0 : W.frozen? ⟨w.heap.size + 1 + 1, 0, none⟩ = false := by rw [← hW]; simp [go_sem]
    have f1 : W.frozen? ⟨w.heap.size + 1 + 1, 1, none⟩ = false := by rw [← hW]; simp [go_sem]
    have K : Kp w W := by rw [← hW]; exact kp_alloc (kp_alloc (kp_alloc (kp_refl _) _) _) _
    have l0_0 : w.heap.size < W.heap.size := cell_lt c0_0
    have l1_0 : w.heap.size + 1 < W.heap.size := cell_lt c1_0
    have l2_0 : w.heap.size + 1 + 1 < W.heap.size := cell_lt c2_0
    rw [hW]; clear hW
    go_wp2_with (first
      | (go_at_call_of 19 (Value.agg #[Value.int .i64 ax, Value.int .i64 ay]); refine (rvalid_any _ _ _).mono ?_; rintro e w2 ⟨rfl, hk⟩; replace f0 : w2.frozen? ⟨w.heap.size + 1 + 1, 0, none⟩ = false := kp_froz hk (by first | exact c2_0 | exact cell_a c2_0 _) (by first | exact f0 | exact froz_a c2_0 f0 _); replace f1 : w2.frozen? ⟨w.heap.size + 1 + 1, 1, none⟩ = false := kp_froz hk (by first | exact c2_1 | exact cell_a c2_1 _) (by first | exact f1 | exact froz_a c2_1 f1 _); replace c0_0 : w2.cell? ⟨w.heap.size, 0, none⟩ = some (.int .i64 ax) := kp_cell hk (by first | exact c0_0 | exact cell_a c0_0 _ | exact cell_a (cell_a c0_0 _) _ | exact cell_a (cell_a (cell_a c0_0 _) _) _); replace c0_1 : w2.cell? ⟨w.heap.size, 1, none⟩ = some (.int .i64 ay) := kp_cell hk (by first | exact c0_1 | exact cell_a c0_1 _ | exact cell_a (cell_a c0_1 _) _ | exact cell_a (cell_a (cell_a c0_1 _) _) _); replace c1_0 : w2.cell? ⟨w.heap.size + 1, 0, none⟩ = some (.int .i64 bx) := kp_cell hk (by first | exact c1_0 | exact cell_a c1_0 _ | exact cell_a (cell_a c1_0 _) _ | exact cell_a (cell_a (cell_a c1_0 _) _) _); replace c1_1 : w2.cell? ⟨w.heap.size + 1, 1, none⟩ = some (.int .i64 bY) := kp_cell hk (by first | exact c1_1 | exact cell_a c1_1 _ | exact cell_a (cell_a c1_1 _) _ | exact cell_a (cell_a (cell_a c1_1 _) _) _); replace c2_0 : w2.cell? ⟨w.heap.size + 1 + 1, 0, none⟩ = some (.int .i64 0) := kp_cell hk (by first | exact c2_0 | exact cell_a c2_0 _ | exact cell_a (cell_a c2_0 _) _ | exact cell_a (cell_a (cell_a c2_0 _) _) _); replace c2_1 : w2.cell? ⟨w.heap.size + 1 + 1, 1, none⟩ = some (.int .i64 0) := kp_cell hk (by first | exact c2_1 | exact cell_a c2_1 _ | exact cell_a (cell_a c2_1 _) _ | exact cell_a (cell_a (cell_a c2_1 _) _) _); replace K : Kp w w2 := kp_trans (by repeat (first | exact K | apply kp_alloc | apply kp_drew | apply kp_drewN)) hk; replace l0_0 : w.heap.size < w2.heap.size := cell_lt c0_0; replace l1_0 : w.heap.size + 1 < w2.heap.size := cell_lt c1_0; replace l2_0 : w.heap.size + 1 + 1 < w2.heap.size := cell_lt c2_0; clear hk)
      | (go_at_call_of 19 (Value.agg #[Value.int .i64 bx, Value.int .i64 bY]); refine (rvalid_any _ _ _).mono ?_; rintro e w3 ⟨rfl, hk⟩; replace f0 : w3.frozen? ⟨w.heap.size + 1 + 1, 0, none⟩ = false := kp_froz hk (by first | exact c2_0 | exact cell_a c2_0 _) (by first | exact f0 | exact froz_a c2_0 f0 _); replace f1 : w3.frozen? ⟨w.heap.size + 1 + 1, 1, none⟩ = false := kp_froz hk (by first | exact c2_1 | exact cell_a c2_1 _) (by first | exact f1 | exact froz_a c2_1 f1 _); replace c0_0 : w3.cell? ⟨w.heap.size, 0, none⟩ = some (.int .i64 ax) := kp_cell hk (by first | exact c0_0 | exact cell_a c0_0 _ | exact cell_a (cell_a c0_0 _) _ | exact cell_a (cell_a (cell_a c0_0 _) _) _); replace c0_1 : w3.cell? ⟨w.heap.size, 1, none⟩ = some (.int .i64 ay) := kp_cell hk (by first | exact c0_1 | exact cell_a c0_1 _ | exact cell_a (cell_a c0_1 _) _ | exact cell_a (cell_a (cell_a c0_1 _) _) _); replace c1_0 : w3.cell? ⟨w.heap.size + 1, 0, none⟩ = some (.int .i64 bx) := kp_cell hk (by first | exact c1_0 | exact cell_a c1_0 _ | exact cell_a (cell_a c1_0 _) _ | exact cell_a (cell_a (cell_a c1_0 _) _) _); replace c1_1 : w3.cell? ⟨w.heap.size + 1, 1, none⟩ = some (.int .i64 bY) := kp_cell hk (by first | exact c1_1 | exact cell_a c1_1 _ | exact cell_a (cell_a c1_1 _) _ | exact cell_a (cell_a (cell_a c1_1 _) _) _); replace c2_0 : w3.cell? ⟨w.heap.size + 1 + 1, 0, none⟩ = some (.int .i64 0) := kp_cell hk (by first | exact c2_0 | exact cell_a c2_0 _ | exact cell_a (cell_a c2_0 _) _ | exact cell_a (cell_a (cell_a c2_0 _) _) _); replace c2_1 : w3.cell? ⟨w.heap.size + 1 + 1, 1, none⟩ = some (.int .i64 0) := kp_cell hk (by first | exact c2_1 | exact cell_a c2_1 _ | exact cell_a (cell_a c2_1 _) _ | exact cell_a (cell_a (cell_a c2_1 _) _) _); replace K : Kp w w3 := kp_trans (by repeat (first | exact K | apply kp_alloc | apply kp_drew | apply kp_drewN)) hk; replace l0_0 : w.heap.size < w3.heap.size := cell_lt c0_0; replace l1_0 : w.heap.size + 1 < w3.heap.size := cell_lt c1_0; replace l2_0 : w.heap.size + 1 + 1 < w3.heap.size := cell_lt c2_0; clear hk))
    refine bodyPost_ret (v := .tuple #[pv 0 0, .int .i64 2]) (by simp [results, Try.results17, go_sem, c2_0, c2_1]) rfl ⟨ret_mv (p := (0, 0)) H1.out.symm H2.out.symm, ?_⟩
    exact kp_set (kp_set K (Nat.le_add_right _ 2) _) (Nat.le_add_right _ 2) _
  · cases hb : okP (bx, bY)
    · have H1 := Lib.hid (mvP_no (p := (ax, ay)) (d := (bx, bY)) (by rw [ha, hb]; rfl))
      have H2 := Lib.hid (mvE_no (p := (ax, ay)) (d := (bx, bY)) (by rw [ha, hb]; rfl))
      go_enter Try.func17, Try.ntmps17
      go_upto_region 1 with fail
      obtain ⟨W, hW⟩ : ∃ W, (((w.alloc (.cells #[.int .i64 ax, .int .i64 ay] 23)).alloc (.cells #[.int .i64 bx, .int .i64 bY] 23)).alloc (.cells #[.int .i64 0, .int .i64 0] 23)) = W := ⟨_, rfl⟩
      have c0_0 : W.cell? ⟨w.heap.size, 0, none⟩ = some (.int .i64 ax) := by rw [← hW]; simp [go_sem]
      have c0_1 : W.cell? ⟨w.heap.size, 1, none⟩ = some (.int .i64 ay) := by rw [← hW]; simp [go_sem]
      have c1_0 : W.cell? ⟨w.heap.size + 1, 0, none⟩ = some (.int .i64 bx) := by rw [← hW]; simp [go_sem]
      have c1_1 : W.cell? ⟨w.heap.size + 1, 1, none⟩ = some (.int .i64 bY) := by rw [← hW]; simp [go_sem]
      have c2_0 : W.cell? ⟨w.heap.size + 1 + 1, 0, none⟩ = some (.int .i64 0) := by rw [← hW]; simp [go_sem]
      have c2_1 : W.cell? ⟨w.heap.size + 1 + 1, 1, none⟩ = some (.int .i64 0) := by rw [← hW]; simp [go_sem]
      have f0 : W.frozen? ⟨w.heap.size + 1 + 1, 0, none⟩ = false := by rw [← hW]; simp [go_sem]
      have f1 : W.frozen? ⟨w.heap.size + 1 + 1, 1, none⟩ = false := by rw [← hW]; simp [go_sem]
      have K : Kp w W := by rw [← hW]; exact kp_alloc (kp_alloc (kp_alloc (kp_refl _) _) _) _
      have l0_0 : w.heap.size < W.heap.size := cell_lt c0_0
      have l1_0 : w.heap.size + 1 < W.heap.size := cell_lt c1_0
      have l2_0 : w.heap.size + 1 + 1 < W.heap.size := cell_lt c2_0
      rw [hW]; clear hW
      go_wp2_with (first
        | (go_at_call_of 19 (Value.agg #[Value.int .i64 ax, Value.int .i64 ay]); refine (rvalid_any _ _ _).mono ?_; rintro e w2 ⟨rfl, hk⟩; replace f0 : w2.frozen? ⟨w.heap.size + 1 + 1, 0, none⟩ = false := kp_froz hk (by first | exact c2_0 | exact cell_a c2_0 _) (by first | exact f0 | exact froz_a c2_0 f0 _); replace f1 : w2.frozen? ⟨w.heap.size + 1 + 1, 1, none⟩ = false := kp_froz hk (by first | exact c2_1 | exact cell_a c2_1 _) (by first | exact f1 | exact froz_a c2_1 f1 _); replace c0_0 : w2.cell? ⟨w.heap.size, 0, none⟩ = some (.int .i64 ax) := kp_cell hk (by first | exact c0_0 | exact cell_a c0_0 _ | exact cell_a (cell_a c0_0 _) _ | exact cell_a (cell_a (cell_a c0_0 _) _) _); replace c0_1 : w2.cell? ⟨w.heap.size, 1, none⟩ = some (.int .i64 ay) := kp_cell hk (by first | exact c0_1 | exact cell_a c0_1 _ | exact cell_a (cell_a c0_1 _) _ | exact cell_a (cell_a (cell_a c0_1 _) _) _); replace c1_0 : w2.cell? ⟨w.heap.size + 1, 0, none⟩ = some (.int .i64 bx) := kp_cell hk (by first | exact c1_0 | exact cell_a c1_0 _ | exact cell_a (cell_a c1_0 _) _ | exact cell_a (cell_a (cell_a c1_0 _) _) _); replace c1_1 : w2.cell? ⟨w.heap.size + 1, 1, none⟩ = some (.int .i64 bY) := kp_cell hk (by first | exact c1_1 | exact cell_a c1_1 _ | exact cell_a (cell_a c1_1 _) _ | exact cell_a (cell_a (cell_a c1_1 _) _) _); replace c2_0 : w2.cell? ⟨w.heap.size + 1 + 1, 0, none⟩ = some (.int .i64 0) := kp_cell hk (by first | exact c2_0 | exact cell_a c2_0 _ | exact cell_a (cell_a c2_0 _) _ | exact cell_a (cell_a (cell_a c2_0 _) _) _); replace c2_1 : w2.cell? ⟨w.heap.size + 1 + 1, 1, none⟩ = some (.int .i64 0) := kp_cell hk (by first | exact c2_1 | exact cell_a c2_1 _ | exact cell_a (cell_a c2_1 _) _ | exact cell_a (cell_a (cell_a c2_1 _) _) _); replace K : Kp w w2 := kp_trans (by repeat (first | exact K | apply kp_alloc | apply kp_drew | apply kp_drewN)) hk; replace l0_0 : w.heap.size < w2.heap.size := cell_lt c0_0; replace l1_0 : w.heap.size + 1 < w2.heap.size := cell_lt c1_0; replace l2_0 : w.heap.size + 1 + 1 < w2.heap.size := cell_lt c2_0; clear hk)
        | (go_at_call_of 19 (Value.agg #[Value.int .i64 bx, Value.int .i64 bY]); refine (rvalid_any _ _ _).mono ?_; rintro e w3 ⟨rfl, hk⟩; replace f0 : w3.frozen? ⟨w.heap.size + 1 + 1, 0, none⟩ = false := kp_froz hk (by first | exact c2_0 | exact cell_a c2_0 _) (by first | exact f0 | exact froz_a c2_0 f0 _); replace f1 : w3.frozen? ⟨w.heap.size + 1 + 1, 1, none⟩ = false := kp_froz hk (by first | exact c2_1 | exact cell_a c2_1 _) (by first | exact f1 | exact froz_a c2_1 f1 _); replace c0_0 : w3.cell? ⟨w.heap.size, 0, none⟩ = some (.int .i64 ax) := kp_cell hk (by first | exact c0_0 | exact cell_a c0_0 _ | exact cell_a (cell_a c0_0 _) _ | exact cell_a (cell_a (cell_a c0_0 _) _) _); replace c0_1 : w3.cell? ⟨w.heap.size, 1, none⟩ = some (.int .i64 ay) := kp_cell hk (by first | exact c0_1 | exact cell_a c0_1 _ | exact cell_a (cell_a c0_1 _) _ | exact cell_a (cell_a (cell_a c0_1 _) _) _); replace c1_0 : w3.cell? ⟨w.heap.size + 1, 0, none⟩ = some (.int .i64 bx) := kp_cell hk (by first | exact c1_0 | exact cell_a c1_0 _ | exact cell_a (cell_a c1_0 _) _ | exact cell_a (cell_a (cell_a c1_0 _) _) _); replace c1_1 : w3.cell? ⟨w.heap.size + 1, 1, none⟩ = some (.int .i64 bY) := kp_cell hk (by first | exact c1_1 | exact cell_a c1_1 _ | exact cell_a (cell_a c1_1 _) _ | exact cell_a (cell_a (cell_a c1_1 _) _) _); replace c2_0 : w3.cell? ⟨w.heap.size + 1 + 1, 0, none⟩ = some (.int .i64 0) := kp_cell hk (by first | exact c2_0 | exact cell_a c2_0 _ | exact cell_a (cell_a c2_0 _) _ | exact cell_a (cell_a (cell_a c2_0 _) _) _); replace c2_1 : w3.cell? ⟨w.heap.size + 1 + 1, 1, none⟩ = some (.int .i64 0) := kp_cell hk (by first | exact c2_1 | exact cell_a c2_1 _ | exact cell_a (cell_a c2_1 _) _ | exact cell_a (cell_a (cell_a c2_1 _) _) _); replace K : Kp w w3 := kp_trans (by repeat (first | exact K | apply kp_alloc | apply kp_drew | apply kp_drewN)) hk; replace l0_0 : w.heap.size < w3.heap.size := cell_lt c0_0; replace l1_0 : w.heap.size + 1 < w3.heap.size := cell_lt c1_0; replace l2_0 : w.heap.size + 1 + 1 < w3.heap.size := cell_lt c2_0; clear hk))
      refine bodyPost_ret (v := .tuple #[pv 0 0, .int .i64 2]) (by simp [results, Try.results17, go_sem, c2_0, c2_1]) rfl ⟨ret_mv (p := (0, 0)) H1.out.symm H2.out.symm, ?_⟩
      exact kp_set (kp_set K (Nat.le_add_right _ 2) _) (Nat.le_add_right _ 2) _
    · have hab : (okP (ax, ay) && okP (bx, bY)) = true := by rw [ha, hb]; rfl
      have h' := hab
      simp only [Bool.and_eq_true, okP_iff] at h'
      obtain ⟨⟨⟨a1, a2⟩, a3, a4⟩, ⟨b1, b2⟩, b3, b4⟩ := h'
      cases h2 : okP (mv (ax, ay) (bx, bY))
      · have H1 := Lib.hid (mvP_out hab h2)
        have H2 := Lib.hid (mvE_out hab h2)
        have h3 : okP (ax + bx, ay + bY) = false := h2
        clear h2 hab
        go_enter Try.func17, Try.ntmps17
        go_upto_region 1 with fail
        obtain ⟨W, hW⟩ : ∃ W, (((w.alloc (.cells #[.int .i64 ax, .int .i64 ay] 23)).alloc (.cells #[.int .i64 bx, .int .i64 bY] 23)).alloc (.cells #[.int .i64 0, .int .i64 0] 23)) = W := ⟨_, rfl⟩
        have c0_0 : W.cell? ⟨w.heap.size, 0, none⟩ = some (.int .i64 ax) := by rw [← hW]; simp [go_sem]
        have c0_1 : W.cell? ⟨w.heap.size, 1, none⟩ = some (.int .i64 ay) := by rw [← hW]; simp [go_sem]
        have c1_0 : W.cell? ⟨w.heap.size + 1, 0, none⟩ = some (.int .i64 bx) := by rw [← hW]; simp [go_sem]
        have c1_1 : W.cell? ⟨w.heap.size + 1, 1, none⟩ = some (.int .i64 bY) := by rw [← hW]; simp [go_sem]
        have c2_0 : W.cell? ⟨w.heap.size + 1 + 1, 0, none⟩ = some (.int .i64 0) := by rw [← hW]; simp [go_sem]
        have c2_1 : W.cell? ⟨w.heap.size + 1 + 1, 1, none⟩ = some (.int .i64 0) := by rw [← hW]; simp [go_sem]
        have f0 : W.frozen? ⟨w.heap.size + 1 + 1, 0, none⟩ = false := by rw [← hW]; simp [go_sem]
        have f1 : W.frozen? ⟨w.heap.size + 1 + 1, 1, none⟩ = false := by rw [← hW]; simp [go_sem]
        have K : Kp w W := by rw [← hW]; exact kp_alloc (kp_alloc (kp_alloc (kp_refl _) _) _) _
        have l0_0 : w.heap.size < W.heap.size := cell_lt c0_0
        have l1_0 : w.heap.size + 1 < W.heap.size := cell_lt c1_0
        have l2_0 : w.heap.size + 1 + 1 < W.heap.size := cell_lt c2_0
        rw [hW]; clear hW
        go_wp2_with (first
          | (go_at_call_of 19 (Value.agg #[Value.int .i64 ax, Value.int .i64 ay]); refine (rvalid_any _ _ _).mono ?_; rintro e w2 ⟨rfl, hk⟩; replace f0 : w2.frozen? ⟨w.heap.size + 1 + 1, 0, none⟩ = false := kp_froz hk (by first | exact c2_0 | exact cell_a c2_0 _) (by first | exact f0 | exact froz_a c2_0 f0 _); replace f1 : w2.frozen? ⟨w.heap.size + 1 + 1, 1, none⟩ = false := kp_froz hk (by first | exact c2_1 | exact cell_a c2_1 _) (by first | exact f1 | exact froz_a c2_1 f1 _); replace c0_0 : w2.cell? ⟨w.heap.size, 0, none⟩ = some (.int .i64 ax) := kp_cell hk (by first | exact c0_0 | exact cell_a c0_0 _ | exact cell_a (cell_a c0_0 _) _ | exact cell_a (cell_a (cell_a c0_0 _) _) _); replace c0_1 : w2.cell? ⟨w.heap.size, 1, none⟩ = some (.int .i64 ay) := kp_cell hk (by first | exact c0_1 | exact cell_a c0_1 _ | exact cell_a (cell_a c0_1 _) _ | exact cell_a (cell_a (cell_a c0_1 _) _) _); replace c1_0 : w2.cell? ⟨w.heap.size + 1, 0, none⟩ = some (.int .i64 bx) := kp_cell hk (by first | exact c1_0 | exact cell_a c1_0 _ | exact cell_a (cell_a c1_0 _) _ | exact cell_a (cell_a (cell_a c1_0 _) _) _); replace c1_1 : w2.cell? ⟨w.heap.size + 1, 1, none⟩ = some (.int .i64 bY) := kp_cell hk (by first | exact c1_1 | exact cell_a c1_1 _ | exact cell_a (cell_a c1_1 _) _ | exact cell_a (cell_a (cell_a c1_1 _) _) _); replace c2_0 : w2.cell? ⟨w.heap.size + 1 + 1, 0, none⟩ = some (.int .i64 0) := kp_cell hk (by first | exact c2_0 | exact cell_a c2_0 _ | exact cell_a (cell_a c2_0 _) _ | exact cell_a (cell_a (cell_a c2_0 _) _) _); replace c2_1 : w2.cell? ⟨w.heap.size + 1 + 1, 1, none⟩ = some (.int .i64 0) := kp_cell hk (by first | exact c2_1 | exact cell_a c2_1 _ | exact cell_a (cell_a c2_1 _) _ | exact cell_a (cell_a (cell_a c2_1 _) _) _); replace K : Kp w w2 := kp_trans (by repeat (first | exact K | apply kp_alloc | apply kp_drew | apply kp_drewN)) hk; replace l0_0 : w.heap.size < w2.heap.size := cell_lt c0_0; replace l1_0 : w.heap.size + 1 < w2.heap.size := cell_lt c1_0; replace l2_0 : w.heap.size + 1 + 1 < w2.heap.size := cell_lt c2_0; clear hk)
          | (go_at_call_of 19 (Value.agg #[Value.int .i64 bx, Value.int .i64 bY]); refine (rvalid_any _ _ _).mono ?_; rintro e w3 ⟨rfl, hk⟩; replace f0 : w3.frozen? ⟨w.heap.size + 1 + 1, 0, none⟩ = false := kp_froz hk (by first | exact c2_0 | exact cell_a c2_0 _) (by first | exact f0 | exact froz_a c2_0 f0 _); replace f1 : w3.frozen? ⟨w.heap.size + 1 + 1, 1, none⟩ = false := kp_froz hk (by first | exact c2_1 | exact cell_a c2_1 _) (by first | exact f1 | exact froz_a c2_1 f1 _); replace c0_0 : w3.cell? ⟨w.heap.size, 0, none⟩ = some (.int .i64 ax) := kp_cell hk (by first | exact c0_0 | exact cell_a c0_0 _ | exact cell_a (cell_a c0_0 _) _ | exact cell_a (cell_a (cell_a c0_0 _) _) _); replace c0_1 : w3.cell? ⟨w.heap.size, 1, none⟩ = some (.int .i64 ay) := kp_cell hk (by first | exact c0_1 | exact cell_a c0_1 _ | exact cell_a (cell_a c0_1 _) _ | exact cell_a (cell_a (cell_a c0_1 _) _) _); replace c1_0 : w3.cell? ⟨w.heap.size + 1, 0, none⟩ = some (.int .i64 bx) := kp_cell hk (by first | exact c1_0 | exact cell_a c1_0 _ | exact cell_a (cell_a c1_0 _) _ | exact cell_a (cell_a (cell_a c1_0 _) _) _); replace c1_1 : w3.cell? ⟨w.heap.size + 1, 1, none⟩ = some (.int .i64 bY) := kp_cell hk (by first | exact c1_1 | exact cell_a c1_1 _ | exact cell_a (cell_a c1_1 _) _ | exact cell_a (cell_a (cell_a c1_1 _) _) _); replace c2_0 : w3.cell? ⟨w.heap.size + 1 + 1, 0, none⟩ = some (.int .i64 0) := kp_cell hk (by first | exact c2_0 | exact cell_a c2_0 _ | exact cell_a (cell_a c2_0 _) _ | exact cell_a (cell_a (cell_a c2_0 _) _) _); replace c2_1 : w3.cell? ⟨w.heap.size + 1 + 1, 1, none⟩ = some (.int .i64 0) := kp_cell hk (by first | exact c2_1 | exact cell_a c2_1 _ | exact cell_a (cell_a c2_1 _) _ | exact cell_a (cell_a (cell_a c2_1 _) _) _); replace K : Kp w w3 := kp_trans (by repeat (first | exact K | apply kp_alloc | apply kp_drew | apply kp_drewN)) hk; replace l0_0 : w.heap.size < w3.heap.size := cell_lt c0_0; replace l1_0 : w.heap.size + 1 < w3.heap.size := cell_lt c1_0; replace l2_0 : w.heap.size + 1 + 1 < w3.heap.size := cell_lt c2_0; clear hk)
          | (go_at_call_of 19 (Value.agg #[Value.int .i64 (ax + bx), Value.int .i64 (ay + bY)]); refine (rvalid_any _ _ _).mono ?_; rintro e w4 ⟨rfl, hk⟩; replace f0 : w4.frozen? ⟨w.heap.size + 1 + 1, 0, none⟩ = false := kp_froz hk (by first | exact c2_0 | exact cell_a c2_0 _) (by first | exact f0 | exact froz_a c2_0 f0 _); replace f1 : w4.frozen? ⟨w.heap.size + 1 + 1, 1, none⟩ = false := kp_froz hk (by first | exact c2_1 | exact cell_a c2_1 _) (by first | exact f1 | exact froz_a c2_1 f1 _); replace c0_0 : w4.cell? ⟨w.heap.size, 0, none⟩ = some (.int .i64 ax) := kp_cell hk (by first | exact c0_0 | exact cell_a c0_0 _ | exact cell_a (cell_a c0_0 _) _ | exact cell_a (cell_a (cell_a c0_0 _) _) _); replace c0_1 : w4.cell? ⟨w.heap.size, 1, none⟩ = some (.int .i64 ay) := kp_cell hk (by first | exact c0_1 | exact cell_a c0_1 _ | exact cell_a (cell_a c0_1 _) _ | exact cell_a (cell_a (cell_a c0_1 _) _) _); replace c1_0 : w4.cell? ⟨w.heap.size + 1, 0, none⟩ = some (.int .i64 bx) := kp_cell hk (by first | exact c1_0 | exact cell_a c1_0 _ | exact cell_a (cell_a c1_0 _) _ | exact cell_a (cell_a (cell_a c1_0 _) _) _); replace c1_1 : w4.cell? ⟨w.heap.size + 1, 1, none⟩ = some (.int .i64 bY) := kp_cell hk (by first | exact c1_1 | exact cell_a c1_1 _ | exact cell_a (cell_a c1_1 _) _ | exact cell_a (cell_a (cell_a c1_1 _) _) _); replace c2_0 : w4.cell? ⟨w.heap.size + 1 + 1, 0, none⟩ = some (.int .i64 0) := kp_cell hk (by first | exact c2_0 | exact cell_a c2_0 _ | exact cell_a (cell_a c2_0 _) _ | exact cell_a (cell_a (cell_a c2_0 _) _) _); replace c2_1 : w4.cell? ⟨w.heap.size + 1 + 1, 1, none⟩ = some (.int .i64 0) := kp_cell hk (by first | exact c2_1 | exact cell_a c2_1 _ | exact cell_a (cell_a c2_1 _) _ | exact cell_a (cell_a (cell_a c2_1 _) _) _); replace K : Kp w w4 := kp_trans (by repeat (first | exact K | apply kp_alloc | apply kp_drew | apply kp_drewN)) hk; replace l0_0 : w.heap.size < w4.heap.size := cell_lt c0_0; replace l1_0 : w.heap.size + 1 < w4.heap.size := cell_lt c1_0; replace l2_0 : w.heap.size + 1 + 1 < w4.heap.size := cell_lt c2_0; have q0 : w4.cell? ⟨w3.heap.size, 0, none⟩ = some (.int .i64 (ax + bx)) := kp_cell hk (by simp [go_sem]); have q1 : w4.cell? ⟨w3.heap.size, 1, none⟩ = some (.int .i64 (ay + bY)) := kp_cell hk (by simp [go_sem]); clear hk))
        refine bodyPost_ret (v := .tuple #[pv 0 0, .int .i64 5]) (by simp [results, Try.results17, go_sem, c2_0, c2_1]) rfl ⟨ret_mv (p := (0, 0)) H1.out.symm H2.out.symm, ?_⟩
        exact kp_set (kp_set K (Nat.le_add_right _ 2) _) (Nat.le_add_right _ 2) _
      · have H1 := Lib.hid (mvP_ok hab h2)
        have H2 := Lib.hid (mvE_ok hab h2)
        have h3 : okP (ax + bx, ay + bY) = true := h2
        clear h2 hab
        go_enter Try.func17, Try.ntmps17
        go_upto_region 1 with fail
        obtain ⟨W, hW⟩ : ∃ W, (((w.alloc (.cells #[.int .i64 ax, .int .i64 ay] 23)).alloc (.cells #[.int .i64 bx, .int .i64 bY] 23)).alloc (.cells #[.int .i64 0, .int .i64 0] 23)) = W := ⟨_, rfl⟩
        have c0_0 : W.cell? ⟨w.heap.size, 0, none⟩ = some (.int .i64 ax) := by rw [← hW]; simp [go_sem]
        have c0_1 : W.cell? ⟨w.heap.size, 1, none⟩ = some (.int .i64 ay) := by rw [← hW]; simp [go_sem]
        have c1_0 : W.cell? ⟨w.heap.size + 1, 0, none⟩ = some (.int .i64 bx) := by rw [← hW]; simp [go_sem]
        have c1_1 : W.cell? ⟨w.heap.size + 1, 1, none⟩ = some (.int .i64 bY) := by rw [← hW]; simp [go_sem]
        have c2_0 : W.cell? ⟨w.heap.size + 1 + 1, 0, none⟩ = some (.int .i64 0) := by rw [← hW]; simp [go_sem]
        have c2_1 : W.cell? ⟨w.heap.size + 1 + 1, 1, none⟩ = some (.int .i64 0) := by rw [← hW]; simp [go_sem]
        have f0 : W.frozen? ⟨w.heap.size + 1 + 1, 0, none⟩ = false := by rw [← hW]; simp [go_sem]
        have f1 : W.frozen? ⟨w.heap.size + 1 + 1, 1, none⟩ = false := by rw [← hW]; simp [go_sem]
        have K : Kp w W := by rw [← hW]; exact kp_alloc (kp_alloc (kp_alloc (kp_refl _) _) _) _
        have l0_0 : w.heap.size < W.heap.size := cell_lt c0_0
        have l1_0 : w.heap.size + 1 < W.heap.size := cell_lt c1_0
        have l2_0 : w.heap.size + 1 + 1 < W.heap.size := cell_lt c2_0
        rw [hW]; clear hW
        go_wp2_with (first
          | (go_at_call_of 19 (Value.agg #[Value.int .i64 ax, Value.int .i64 ay]); refine (rvalid_any _ _ _).mono ?_; rintro e w2 ⟨rfl, hk⟩; replace f0 : w2.frozen? ⟨w.heap.size + 1 + 1, 0, none⟩ = false := kp_froz hk (by first | exact c2_0 | exact cell_a c2_0 _) (by first | exact f0 | exact froz_a c2_0 f0 _); replace f1 : w2.frozen? ⟨w.heap.size + 1 + 1, 1, none⟩ = false := kp_froz hk (by first | exact c2_1 | exact cell_a c2_1 _) (by first | exact f1 | exact froz_a c2_1 f1 _); replace c0_0 : w2.cell? ⟨w.heap.size, 0, none⟩ = some (.int .i64 ax) := kp_cell hk (by first | exact c0_0 | exact cell_a c0_0 _ | exact cell_a (cell_a c0_0 _) _ | exact cell_a (cell_a (cell_a c0_0 _) _) _); replace c0_1 : w2.cell? ⟨w.heap.size, 1, none⟩ = some (.int .i64 ay) := kp_cell hk (by first | exact c0_1 | exact cell_a c0_1 _ | exact cell_a (cell_a c0_1 _) _ | exact cell_a (cell_a (cell_a c0_1 _) _) _); replace c1_0 : w2.cell? ⟨w.heap.size + 1, 0, none⟩ = some (.int .i64 bx) := kp_cell hk (by first | exact c1_0 | exact cell_a c1_0 _ | exact cell_a (cell_a c1_0 _) _ | exact cell_a (cell_a (cell_a c1_0 _) _) _); replace c1_1 : w2.cell? ⟨w.heap.size + 1, 1, none⟩ = some (.int .i64 bY) := kp_cell hk (by first | exact c1_1 | exact cell_a c1_1 _ | exact cell_a (cell_a c1_1 _) _ | exact cell_a (cell_a (cell_a c1_1 _) _) _); replace c2_0 : w2.cell? ⟨w.heap.size + 1 + 1, 0, none⟩ = some (.int .i64 0) := kp_cell hk (by first | exact c2_0 | exact cell_a c2_0 _ | exact cell_a (cell_a c2_0 _) _ | exact cell_a (cell_a (cell_a c2_0 _) _) _); replace c2_1 : w2.cell? ⟨w.heap.size + 1 + 1, 1, none⟩ = some (.int .i64 0) := kp_cell hk (by first | exact c2_1 | exact cell_a c2_1 _ | exact cell_a (cell_a c2_1 _) _ | exact cell_a (cell_a (cell_a c2_1 _) _) _); replace K : Kp w w2 := kp_trans (by repeat (first | exact K | apply kp_alloc | apply kp_drew | apply kp_drewN)) hk; replace l0_0 : w.heap.size < w2.heap.size := cell_lt c0_0; replace l1_0 : w.heap.size + 1 < w2.heap.size := cell_lt c1_0; replace l2_0 : w.heap.size + 1 + 1 < w2.heap.size := cell_lt c2_0; clear hk)
          | (go_at_call_of 19 (Value.agg #[Value.int .i64 bx, Value.int .i64 bY]); refine (rvalid_any _ _ _).mono ?_; rintro e w3 ⟨rfl, hk⟩; replace f0 : w3.frozen? ⟨w.heap.size + 1 + 1, 0, none⟩ = false := kp_froz hk (by first | exact c2_0 | exact cell_a c2_0 _) (by first | exact f0 | exact froz_a c2_0 f0 _); replace f1 : w3.frozen? ⟨w.heap.size + 1 + 1, 1, none⟩ = false := kp_froz hk (by first | exact c2_1 | exact cell_a c2_1 _) (by first | exact f1 | exact froz_a c2_1 f1 _); replace c0_0 : w3.cell? ⟨w.heap.size, 0, none⟩ = some (.int .i64 ax) := kp_cell hk (by first | exact c0_0 | exact cell_a c0_0 _ | exact cell_a (cell_a c0_0 _) _ | exact cell_a (cell_a (cell_a c0_0 _) _) _); replace c0_1 : w3.cell? ⟨w.heap.size, 1, none⟩ = some (.int .i64 ay) := kp_cell hk (by first | exact c0_1 | exact cell_a c0_1 _ | exact cell_a (cell_a c0_1 _) _ | exact cell_a (cell_a (cell_a c0_1 _) _) _); replace c1_0 : w3.cell? ⟨w.heap.size + 1, 0, none⟩ = some (.int .i64 bx) := kp_cell hk (by first | exact c1_0 | exact cell_a c1_0 _ | exact cell_a (cell_a c1_0 _) _ | exact cell_a (cell_a (cell_a c1_0 _) _) _); replace c1_1 : w3.cell? ⟨w.heap.size + 1, 1, none⟩ = some (.int .i64 bY) := kp_cell hk (by first | exact c1_1 | exact cell_a c1_1 _ | exact cell_a (cell_a c1_1 _) _ | exact cell_a (cell_a (cell_a c1_1 _) _) _); replace c2_0 : w3.cell? ⟨w.heap.size + 1 + 1, 0, none⟩ = some (.int .i64 0) := kp_cell hk (by first | exact c2_0 | exact cell_a c2_0 _ | exact cell_a (cell_a c2_0 _) _ | exact cell_a (cell_a (cell_a c2_0 _) _) _); replace c2_1 : w3.cell? ⟨w.heap.size + 1 + 1, 1, none⟩ = some (.int .i64 0) := kp_cell hk (by first | exact c2_1 | exact cell_a c2_1 _ | exact cell_a (cell_a c2_1 _) _ | exact cell_a (cell_a (cell_a c2_1 _) _) _); replace K : Kp w w3 := kp_trans (by repeat (first | exact K | apply kp_alloc | apply kp_drew | apply kp_drewN)) hk; replace l0_0 : w.heap.size < w3.heap.size := cell_lt c0_0; replace l1_0 : w.heap.size + 1 < w3.heap.size := cell_lt c1_0; replace l2_0 : w.heap.size + 1 + 1 < w3.heap.size := cell_lt c2_0; clear hk)
          | (go_at_call_of 19 (Value.agg #[Value.int .i64 (ax + bx), Value.int .i64 (ay + bY)]); refine (rvalid_any _ _ _).mono ?_; rintro e w4 ⟨rfl, hk⟩; replace f0 : w4.frozen? ⟨w.heap.size + 1 + 1, 0, none⟩ = false := kp_froz hk (by first | exact c2_0 | exact cell_a c2_0 _) (by first | exact f0 | exact froz_a c2_0 f0 _); replace f1 : w4.frozen? ⟨w.heap.size + 1 + 1, 1, none⟩ = false := kp_froz hk (by first | exact c2_1 | exact cell_a c2_1 _) (by first | exact f1 | exact froz_a c2_1 f1 _); replace c0_0 : w4.cell? ⟨w.heap.size, 0, none⟩ = some (.int .i64 ax) := kp_cell hk (by first | exact c0_0 | exact cell_a c0_0 _ | exact cell_a (cell_a c0_0 _) _ | exact cell_a (cell_a (cell_a c0_0 _) _) _); replace c0_1 : w4.cell? ⟨w.heap.size, 1, none⟩ = some (.int .i64 ay) := kp_cell hk (by first | exact c0_1 | exact cell_a c0_1 _ | exact cell_a (cell_a c0_1 _) _ | exact cell_a (cell_a (cell_a c0_1 _) _) _); replace c1_0 : w4.cell? ⟨w.heap.size + 1, 0, none⟩ = some (.int .i64 bx) := kp_cell hk (by first | exact c1_0 | exact cell_a c1_0 _ | exact cell_a (cell_a c1_0 _) _ | exact cell_a (cell_a (cell_a c1_0 _) _) _); replace c1_1 : w4.cell? ⟨w.heap.size + 1, 1, none⟩ = some (.int .i64 bY) := kp_cell hk (by first | exact c1_1 | exact cell_a c1_1 _ | exact cell_a (cell_a c1_1 _) _ | exact cell_a (cell_a (cell_a c1_1 _) _) _); replace c2_0 : w4.cell? ⟨w.heap.size + 1 + 1, 0, none⟩ = some (.int .i64 0) := kp_cell hk (by first | exact c2_0 | exact cell_a c2_0 _ | exact cell_a (cell_a c2_0 _) _ | exact cell_a (cell_a (cell_a c2_0 _) _) _); replace c2_1 : w4.cell? ⟨w.heap.size + 1 + 1, 1, none⟩ = some (.int .i64 0) := kp_cell hk (by first | exact c2_1 | exact cell_a c2_1 _ | exact cell_a (cell_a c2_1 _) _ | exact cell_a (cell_a (cell_a c2_1 _) _) _); replace K : Kp w w4 := kp_trans (by repeat (first | exact K | apply kp_alloc | apply kp_drew | apply kp_drewN)) hk; replace l0_0 : w.heap.size < w4.heap.size := cell_lt c0_0; replace l1_0 : w.heap.size + 1 < w4.heap.size := cell_lt c1_0; replace l2_0 : w.heap.size + 1 + 1 < w4.heap.size := cell_lt c2_0; have q0 : w4.cell? ⟨w3.heap.size, 0, none⟩ = some (.int .i64 (ax + bx)) := kp_cell hk (by simp [go_sem]); have q1 : w4.cell? ⟨w3.heap.size, 1, none⟩ = some (.int .i64 (ay + bY)) := kp_cell hk (by simp [go_sem]); clear hk))
        refine bodyPost_ret (v := .tuple #[pv (ax + bx) (ay + bY), .int .i64 0]) (by simp [results, Try.results17, go_sem, c2_0, c2_1]) rfl ⟨ret_mv (p := ((ax + bx), (ay + bY))) H1.out.symm H2.out.symm, ?_⟩
        exact kp_set (kp_set K (Nat.le_add_right _ 2) _) (Nat.le_add_right _ 2) _
end Go.Proofs.Ytjgphjhanoakkaa
