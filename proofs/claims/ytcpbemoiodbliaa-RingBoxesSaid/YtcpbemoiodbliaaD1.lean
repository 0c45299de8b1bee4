/- Contracts of the reference's segments: may. -/
import Derived.Test.YtcpbemoiodbliaaV
import Derived.Test.YtcpbemoiodbliaaMP
import Derived.Test.YtcpbemoiodbliaaMW
namespace Go.Proofs.Ytcpbemoiodbliaa
open Go.RowKit Go.Proofs.Geo
theorem may_steps {a b : Pt} {v1 v2 v3 : Bool} (h1 : okP a = v1) (h2 : okP b = v2) (h3 : decide (a ≠ b) = v3) : may a b = (v1 && v2 && v3) := by subst h1 h2 h3; rfl
set_option maxHeartbeats 8000000 in
set_option maxRecDepth 100000 in
theorem rmay_any (ax ay bx bY : Int) (w : World) : Calls Try.prog 77 #[pv ax ay, pv bx bY] w fun e w' => e = .returned (.bool (may (ax, ay) (bx, bY))) ∧ Kp w w' := by
  cases h1 : okP (ax, ay)
  · have H := Lib.hid (may_steps (a := (ax, ay)) (b := (bx, bY)) h1 rfl rfl)
    go_enter Try.func77, Try.ntmps77
    go_upto_region 1 with fail
    obtain ⟨W, hW⟩ : ∃ W, ((w.alloc (.cells #[.int .i64 ax, .int .i64 ay] 25)).alloc (.cells #[.int .i64 bx, .int .i64 bY] 25)) = W := ⟨_, rfl⟩
    have c0_0 : W.cell? ⟨w.heap.size, 0, none⟩ = some (.int .i64 ax) := by rw [← hW]; simp [go_sem]
    have c0_1 : W.cell? ⟨w.heap.size, 1, none⟩ = some (.int .i64 ay) := by rw [← hW]; simp [go_sem]
    have c1_0 : W.cell? ⟨w.heap.size + 1, 0, none⟩ = some (.int .i64 bx) := by rw [← hW]; simp [go_sem]
    have c1_1 : W.cell? ⟨w.heap.size + 1, 1, none⟩ = some (.int .i64 bY) := by rw [← hW]; simp [go_sem]
    have K : Kp w W := by rw [← hW]; exact kp_alloc (kp_alloc (kp_refl _) _) _
    have l0_0 : w.heap.size < W.heap.size := cell_lt c0_0
    have l1_0 : w.heap.size + 1 < W.heap.size := cell_lt c1_0
    rw [hW]; clear hW
    go_wp2_with (first
      | (go_at_call_of 38 (Value.agg #[Value.int .i64 ax, Value.int .i64 ay]); refine (rvalid_any _ _ _).mono ?_; rintro e w2 ⟨rfl, hk⟩; replace c0_0 : w2.cell? ⟨w.heap.size, 0, none⟩ = some (.int .i64 ax) := kp_cell hk (by first | exact c0_0 | exact cell_a c0_0 _ | exact cell_a (cell_a c0_0 _) _ | exact cell_a (cell_a (cell_a c0_0 _) _) _); replace c0_1 : w2.cell? ⟨w.heap.size, 1, none⟩ = some (.int .i64 ay) := kp_cell hk (by first | exact c0_1 | exact cell_a c0_1 _ | exact cell_a (cell_a c0_1 _) _ | exact cell_a (cell_a (cell_a c0_1 _) _) _); replace c1_0 : w2.cell? ⟨w.heap.size + 1, 0, none⟩ = some (.int .i64 bx) := kp_cell hk (by first | exact c1_0 | exact cell_a c1_0 _ | exact cell_a (cell_a c1_0 _) _ | exact cell_a (cell_a (cell_a c1_0 _) _) _); replace c1_1 : w2.cell? ⟨w.heap.size + 1, 1, none⟩ = some (.int .i64 bY) := kp_cell hk (by first | exact c1_1 | exact cell_a c1_1 _ | exact cell_a (cell_a c1_1 _) _ | exact cell_a (cell_a (cell_a c1_1 _) _) _); replace K : Kp w w2 := kp_trans (by repeat (first | exact K | apply kp_alloc | apply kp_drew | apply kp_drewN)) hk; replace l0_0 : w.heap.size < w2.heap.size := cell_lt c0_0; replace l1_0 : w.heap.size + 1 < w2.heap.size := cell_lt c1_0; clear hk)
      | (go_at_call_of 38 (Value.agg #[Value.int .i64 bx, Value.int .i64 bY]); refine (rvalid_any _ _ _).mono ?_; rintro e w2 ⟨rfl, hk⟩; replace c0_0 : w2.cell? ⟨w.heap.size, 0, none⟩ = some (.int .i64 ax) := kp_cell hk (by first | exact c0_0 | exact cell_a c0_0 _ | exact cell_a (cell_a c0_0 _) _ | exact cell_a (cell_a (cell_a c0_0 _) _) _); replace c0_1 : w2.cell? ⟨w.heap.size, 1, none⟩ = some (.int .i64 ay) := kp_cell hk (by first | exact c0_1 | exact cell_a c0_1 _ | exact cell_a (cell_a c0_1 _) _ | exact cell_a (cell_a (cell_a c0_1 _) _) _); replace c1_0 : w2.cell? ⟨w.heap.size + 1, 0, none⟩ = some (.int .i64 bx) := kp_cell hk (by first | exact c1_0 | exact cell_a c1_0 _ | exact cell_a (cell_a c1_0 _) _ | exact cell_a (cell_a (cell_a c1_0 _) _) _); replace c1_1 : w2.cell? ⟨w.heap.size + 1, 1, none⟩ = some (.int .i64 bY) := kp_cell hk (by first | exact c1_1 | exact cell_a c1_1 _ | exact cell_a (cell_a c1_1 _) _ | exact cell_a (cell_a (cell_a c1_1 _) _) _); replace K : Kp w w2 := kp_trans (by repeat (first | exact K | apply kp_alloc | apply kp_drew | apply kp_drewN)) hk; replace l0_0 : w.heap.size < w2.heap.size := cell_lt c0_0; replace l1_0 : w.heap.size + 1 < w2.heap.size := cell_lt c1_0; clear hk))
    go_ret
    exact ⟨ret_bool (by rw [H.out]; rfl), K⟩
  · cases h2 : okP (bx, bY)
    · have H := Lib.hid (may_steps (a := (ax, ay)) (b := (bx, bY)) h1 h2 rfl)
      go_enter Try.func77, Try.ntmps77
      go_upto_region 1 with fail
      obtain ⟨W, hW⟩ : ∃ W, ((w.alloc (.cells #[.int .i64 ax, .int .i64 ay] 25)).alloc (.cells #[.int .i64 bx, .int .i64 bY] 25)) = W := ⟨_, rfl⟩
      have c0_0 : W.cell? ⟨w.heap.size, 0, none⟩ = some (.int .i64 ax) := by rw [← hW]; simp [go_sem]
      have c0_1 : W.cell? ⟨w.heap.size, 1, none⟩ = some (.int .i64 ay) := by rw [← hW]; simp [go_sem]
      have c1_0 : W.cell? ⟨w.heap.size + 1, 0, none⟩ = some (.int .i64 bx) := by rw [← hW]; simp [go_sem]
      have c1_1 : W.cell? ⟨w.heap.size + 1, 1, none⟩ = some (.int .i64 bY) := by rw [← hW]; simp [go_sem]
      have K : Kp w W := by rw [← hW]; exact kp_alloc (kp_alloc (kp_refl _) _) _
      have l0_0 : w.heap.size < W.heap.size := cell_lt c0_0
      have l1_0 : w.heap.size + 1 < W.heap.size := cell_lt c1_0
      rw [hW]; clear hW
      go_wp2_with (first
        | (go_at_call_of 38 (Value.agg #[Value.int .i64 ax, Value.int .i64 ay]); refine (rvalid_any _ _ _).mono ?_; rintro e w2 ⟨rfl, hk⟩; replace c0_0 : w2.cell? ⟨w.heap.size, 0, none⟩ = some (.int .i64 ax) := kp_cell hk (by first | exact c0_0 | exact cell_a c0_0 _ | exact cell_a (cell_a c0_0 _) _ | exact cell_a (cell_a (cell_a c0_0 _) _) _); replace c0_1 : w2.cell? ⟨w.heap.size, 1, none⟩ = some (.int .i64 ay) := kp_cell hk (by first | exact c0_1 | exact cell_a c0_1 _ | exact cell_a (cell_a c0_1 _) _ | exact cell_a (cell_a (cell_a c0_1 _) _) _); replace c1_0 : w2.cell? ⟨w.heap.size + 1, 0, none⟩ = some (.int .i64 bx) := kp_cell hk (by first | exact c1_0 | exact cell_a c1_0 _ | exact cell_a (cell_a c1_0 _) _ | exact cell_a (cell_a (cell_a c1_0 _) _) _); replace c1_1 : w2.cell? ⟨w.heap.size + 1, 1, none⟩ = some (.int .i64 bY) := kp_cell hk (by first | exact c1_1 | exact cell_a c1_1 _ | exact cell_a (cell_a c1_1 _) _ | exact cell_a (cell_a (cell_a c1_1 _) _) _); replace K : Kp w w2 := kp_trans (by repeat (first | exact K | apply kp_alloc | apply kp_drew | apply kp_drewN)) hk; replace l0_0 : w.heap.size < w2.heap.size := cell_lt c0_0; replace l1_0 : w.heap.size + 1 < w2.heap.size := cell_lt c1_0; clear hk)
        | (go_at_call_of 38 (Value.agg #[Value.int .i64 bx, Value.int .i64 bY]); refine (rvalid_any _ _ _).mono ?_; rintro e w2 ⟨rfl, hk⟩; replace c0_0 : w2.cell? ⟨w.heap.size, 0, none⟩ = some (.int .i64 ax) := kp_cell hk (by first | exact c0_0 | exact cell_a c0_0 _ | exact cell_a (cell_a c0_0 _) _ | exact cell_a (cell_a (cell_a c0_0 _) _) _); replace c0_1 : w2.cell? ⟨w.heap.size, 1, none⟩ = some (.int .i64 ay) := kp_cell hk (by first | exact c0_1 | exact cell_a c0_1 _ | exact cell_a (cell_a c0_1 _) _ | exact cell_a (cell_a (cell_a c0_1 _) _) _); replace c1_0 : w2.cell? ⟨w.heap.size + 1, 0, none⟩ = some (.int .i64 bx) := kp_cell hk (by first | exact c1_0 | exact cell_a c1_0 _ | exact cell_a (cell_a c1_0 _) _ | exact cell_a (cell_a (cell_a c1_0 _) _) _); replace c1_1 : w2.cell? ⟨w.heap.size + 1, 1, none⟩ = some (.int .i64 bY) := kp_cell hk (by first | exact c1_1 | exact cell_a c1_1 _ | exact cell_a (cell_a c1_1 _) _ | exact cell_a (cell_a (cell_a c1_1 _) _) _); replace K : Kp w w2 := kp_trans (by repeat (first | exact K | apply kp_alloc | apply kp_drew | apply kp_drewN)) hk; replace l0_0 : w.heap.size < w2.heap.size := cell_lt c0_0; replace l1_0 : w.heap.size + 1 < w2.heap.size := cell_lt c1_0; clear hk))
      go_ret
      exact ⟨ret_bool (by rw [H.out]; rfl), K⟩
    · by_cases ex : ax = bx
      · subst ex
        by_cases ey : ay = bY
        · subst ey
          have H := Lib.hid (may_steps (a := (ax, ay)) (b := (ax, ay)) (v3 := false) h1 h2 (by simp))
          go_enter Try.func77, Try.ntmps77
          go_upto_region 1 with fail
          obtain ⟨W, hW⟩ : ∃ W, ((w.alloc (.cells #[.int .i64 ax, .int .i64 ay] 25)).alloc (.cells #[.int .i64 ax, .int .i64 ay] 25)) = W := ⟨_, rfl⟩
          have c0_0 : W.cell? ⟨w.heap.size, 0, none⟩ = some (.int .i64 ax) := by rw [← hW]; simp [go_sem]
          have c0_1 : W.cell? ⟨w.heap.size, 1, none⟩ = some (.int .i64 ay) := by rw [← hW]; simp [go_sem]
          have c1_0 : W.cell? ⟨w.heap.size + 1, 0, none⟩ = some (.int .i64 ax) := by rw [← hW]; simp [go_sem]
          have c1_1 : W.cell? ⟨w.heap.size + 1, 1, none⟩ = some (.int .i64 ay) := by rw [← hW]; simp [go_sem]
          have K : Kp w W := by rw [← hW]; exact kp_alloc (kp_alloc (kp_refl _) _) _
          have l0_0 : w.heap.size < W.heap.size := cell_lt c0_0
          have l1_0 : w.heap.size + 1 < W.heap.size := cell_lt c1_0
          rw [hW]; clear hW
          go_wp2_with (first
            | (go_at_call 38; refine (rvalid_any _ _ _).mono ?_; rintro e w2 ⟨rfl, hk⟩; replace c0_0 : w2.cell? ⟨w.heap.size, 0, none⟩ = some (.int .i64 ax) := kp_cell hk (by first | exact c0_0 | exact cell_a c0_0 _ | exact cell_a (cell_a c0_0 _) _ | exact cell_a (cell_a (cell_a c0_0 _) _) _); replace c0_1 : w2.cell? ⟨w.heap.size, 1, none⟩ = some (.int .i64 ay) := kp_cell hk (by first | exact c0_1 | exact cell_a c0_1 _ | exact cell_a (cell_a c0_1 _) _ | exact cell_a (cell_a (cell_a c0_1 _) _) _); replace c1_0 : w2.cell? ⟨w.heap.size + 1, 0, none⟩ = some (.int .i64 ax) := kp_cell hk (by first | exact c1_0 | exact cell_a c1_0 _ | exact cell_a (cell_a c1_0 _) _ | exact cell_a (cell_a (cell_a c1_0 _) _) _); replace c1_1 : w2.cell? ⟨w.heap.size + 1, 1, none⟩ = some (.int .i64 ay) := kp_cell hk (by first | exact c1_1 | exact cell_a c1_1 _ | exact cell_a (cell_a c1_1 _) _ | exact cell_a (cell_a (cell_a c1_1 _) _) _); replace K : Kp w w2 := kp_trans (by repeat (first | exact K | apply kp_alloc | apply kp_drew | apply kp_drewN)) hk; replace l0_0 : w.heap.size < w2.heap.size := cell_lt c0_0; replace l1_0 : w.heap.size + 1 < w2.heap.size := cell_lt c1_0; clear hk))
          go_ret
          exact ⟨ret_bool (by rw [H.out]; rfl), K⟩
        · have H := Lib.hid (may_steps (a := (ax, ay)) (b := (ax, bY)) (v3 := true) h1 h2 (by simp [ey]))
          have n1 : (ay == bY) = false := by simp [ey]
          have n2 : (ay != bY) = true := by simp [ey]
          go_enter Try.func77, Try.ntmps77
          go_upto_region 1 with fail
          obtain ⟨W, hW⟩ : ∃ W, ((w.alloc (.cells #[.int .i64 ax, .int .i64 ay] 25)).alloc (.cells #[.int .i64 ax, .int .i64 bY] 25)) = W := ⟨_, rfl⟩
          have c0_0 : W.cell? ⟨w.heap.size, 0, none⟩ = some (.int .i64 ax) := by rw [← hW]; simp [go_sem]
          have c0_1 : W.cell? ⟨w.heap.size, 1, none⟩ = some (.int .i64 ay) := by rw [← hW]; simp [go_sem]
          have c1_0 : W.cell? ⟨w.heap.size + 1, 0, none⟩ = some (.int .i64 ax) := by rw [← hW]; simp [go_sem]
          have c1_1 : W.cell? ⟨w.heap.size + 1, 1, none⟩ = some (.int .i64 bY) := by rw [← hW]; simp [go_sem]
          have K : Kp w W := by rw [← hW]; exact kp_alloc (kp_alloc (kp_refl _) _) _
          have l0_0 : w.heap.size < W.heap.size := cell_lt c0_0
          have l1_0 : w.heap.size + 1 < W.heap.size := cell_lt c1_0
          rw [hW]; clear hW
          go_wp2_with (first
            | (go_at_call_of 38 (Value.agg #[Value.int .i64 ax, Value.int .i64 ay]); refine (rvalid_any _ _ _).mono ?_; rintro e w2 ⟨rfl, hk⟩; replace c0_0 : w2.cell? ⟨w.heap.size, 0, none⟩ = some (.int .i64 ax) := kp_cell hk (by first | exact c0_0 | exact cell_a c0_0 _ | exact cell_a (cell_a c0_0 _) _ | exact cell_a (cell_a (cell_a c0_0 _) _) _); replace c0_1 : w2.cell? ⟨w.heap.size, 1, none⟩ = some (.int .i64 ay) := kp_cell hk (by first | exact c0_1 | exact cell_a c0_1 _ | exact cell_a (cell_a c0_1 _) _ | exact cell_a (cell_a (cell_a c0_1 _) _) _); replace c1_0 : w2.cell? ⟨w.heap.size + 1, 0, none⟩ = some (.int .i64 ax) := kp_cell hk (by first | exact c1_0 | exact cell_a c1_0 _ | exact cell_a (cell_a c1_0 _) _ | exact cell_a (cell_a (cell_a c1_0 _) _) _); replace c1_1 : w2.cell? ⟨w.heap.size + 1, 1, none⟩ = some (.int .i64 bY) := kp_cell hk (by first | exact c1_1 | exact cell_a c1_1 _ | exact cell_a (cell_a c1_1 _) _ | exact cell_a (cell_a (cell_a c1_1 _) _) _); replace K : Kp w w2 := kp_trans (by repeat (first | exact K | apply kp_alloc | apply kp_drew | apply kp_drewN)) hk; replace l0_0 : w.heap.size < w2.heap.size := cell_lt c0_0; replace l1_0 : w.heap.size + 1 < w2.heap.size := cell_lt c1_0; clear hk)
            | (go_at_call_of 38 (Value.agg #[Value.int .i64 ax, Value.int .i64 bY]); refine (rvalid_any _ _ _).mono ?_; rintro e w2 ⟨rfl, hk⟩; replace c0_0 : w2.cell? ⟨w.heap.size, 0, none⟩ = some (.int .i64 ax) := kp_cell hk (by first | exact c0_0 | exact cell_a c0_0 _ | exact cell_a (cell_a c0_0 _) _ | exact cell_a (cell_a (cell_a c0_0 _) _) _); replace c0_1 : w2.cell? ⟨w.heap.size, 1, none⟩ = some (.int .i64 ay) := kp_cell hk (by first | exact c0_1 | exact cell_a c0_1 _ | exact cell_a (cell_a c0_1 _) _ | exact cell_a (cell_a (cell_a c0_1 _) _) _); replace c1_0 : w2.cell? ⟨w.heap.size + 1, 0, none⟩ = some (.int .i64 ax) := kp_cell hk (by first | exact c1_0 | exact cell_a c1_0 _ | exact cell_a (cell_a c1_0 _) _ | exact cell_a (cell_a (cell_a c1_0 _) _) _); replace c1_1 : w2.cell? ⟨w.heap.size + 1, 1, none⟩ = some (.int .i64 bY) := kp_cell hk (by first | exact c1_1 | exact cell_a c1_1 _ | exact cell_a (cell_a c1_1 _) _ | exact cell_a (cell_a (cell_a c1_1 _) _) _); replace K : Kp w w2 := kp_trans (by repeat (first | exact K | apply kp_alloc | apply kp_drew | apply kp_drewN)) hk; replace l0_0 : w.heap.size < w2.heap.size := cell_lt c0_0; replace l1_0 : w.heap.size + 1 < w2.heap.size := cell_lt c1_0; clear hk))
          go_ret
          exact ⟨ret_bool (by rw [H.out]; rfl), K⟩
      · have H := Lib.hid (may_steps (a := (ax, ay)) (b := (bx, bY)) (v3 := true) h1 h2 (by simp [ex]))
        have n1 : (ax == bx) = false := by simp [ex]
        have n2 : (ax != bx) = true := by simp [ex]
        go_enter Try.func77, Try.ntmps77
        go_upto_region 1 with fail
        obtain ⟨W, hW⟩ : ∃ W, ((w.alloc (.cells #[.int .i64 ax, .int .i64 ay] 25)).alloc (.cells #[.int .i64 bx, .int .i64 bY] 25)) = W := ⟨_, rfl⟩
        have c0_0 : W.cell? ⟨w.heap.size, 0, none⟩ = some (.int .i64 ax) := by rw [← hW]; simp [go_sem]
        have c0_1 : W.cell? ⟨w.heap.size, 1, none⟩ = some (.int .i64 ay) := by rw [← hW]; simp [go_sem]
        have c1_0 : W.cell? ⟨w.heap.size + 1, 0, none⟩ = some (.int .i64 bx) := by rw [← hW]; simp [go_sem]
        have c1_1 : W.cell? ⟨w.heap.size + 1, 1, none⟩ = some (.int .i64 bY) := by rw [← hW]; simp [go_sem]
        have K : Kp w W := by rw [← hW]; exact kp_alloc (kp_alloc (kp_refl _) _) _
        have l0_0 : w.heap.size < W.heap.size := cell_lt c0_0
        have l1_0 : w.heap.size + 1 < W.heap.size := cell_lt c1_0
        rw [hW]; clear hW
        go_wp2_with (first
          | (go_at_call_of 38 (Value.agg #[Value.int .i64 ax, Value.int .i64 ay]); refine (rvalid_any _ _ _).mono ?_; rintro e w2 ⟨rfl, hk⟩; replace c0_0 : w2.cell? ⟨w.heap.size, 0, none⟩ = some (.int .i64 ax) := kp_cell hk (by first | exact c0_0 | exact cell_a c0_0 _ | exact cell_a (cell_a c0_0 _) _ | exact cell_a (cell_a (cell_a c0_0 _) _) _); replace c0_1 : w2.cell? ⟨w.heap.size, 1, none⟩ = some (.int .i64 ay) := kp_cell hk (by first | exact c0_1 | exact cell_a c0_1 _ | exact cell_a (cell_a c0_1 _) _ | exact cell_a (cell_a (cell_a c0_1 _) _) _); replace c1_0 : w2.cell? ⟨w.heap.size + 1, 0, none⟩ = some (.int .i64 bx) := kp_cell hk (by first | exact c1_0 | exact cell_a c1_0 _ | exact cell_a (cell_a c1_0 _) _ | exact cell_a (cell_a (cell_a c1_0 _) _) _); replace c1_1 : w2.cell? ⟨w.heap.size + 1, 1, none⟩ = some (.int .i64 bY) := kp_cell hk (by first | exact c1_1 | exact cell_a c1_1 _ | exact cell_a (cell_a c1_1 _) _ | exact cell_a (cell_a (cell_a c1_1 _) _) _); replace K : Kp w w2 := kp_trans (by repeat (first | exact K | apply kp_alloc | apply kp_drew | apply kp_drewN)) hk; replace l0_0 : w.heap.size < w2.heap.size := cell_lt c0_0; replace l1_0 : w.heap.size + 1 < w2.heap.size := cell_lt c1_0; clear hk)
          | (go_at_call_of 38 (Value.agg #[Value.int .i64 bx, Value.int .i64 bY]); refine (rvalid_any _ _ _).mono ?_; rintro e w2 ⟨rfl, hk⟩; replace c0_0 : w2.cell? ⟨w.heap.size, 0, none⟩ = some (.int .i64 ax) := kp_cell hk (by first | exact c0_0 | exact cell_a c0_0 _ | exact cell_a (cell_a c0_0 _) _ | exact cell_a (cell_a (cell_a c0_0 _) _) _); replace c0_1 : w2.cell? ⟨w.heap.size, 1, none⟩ = some (.int .i64 ay) := kp_cell hk (by first | exact c0_1 | exact cell_a c0_1 _ | exact cell_a (cell_a c0_1 _) _ | exact cell_a (cell_a (cell_a c0_1 _) _) _); replace c1_0 : w2.cell? ⟨w.heap.size + 1, 0, none⟩ = some (.int .i64 bx) := kp_cell hk (by first | exact c1_0 | exact cell_a c1_0 _ | exact cell_a (cell_a c1_0 _) _ | exact cell_a (cell_a (cell_a c1_0 _) _) _); replace c1_1 : w2.cell? ⟨w.heap.size + 1, 1, none⟩ = some (.int .i64 bY) := kp_cell hk (by first | exact c1_1 | exact cell_a c1_1 _ | exact cell_a (cell_a c1_1 _) _ | exact cell_a (cell_a (cell_a c1_1 _) _) _); replace K : Kp w w2 := kp_trans (by repeat (first | exact K | apply kp_alloc | apply kp_drew | apply kp_drewN)) hk; replace l0_0 : w.heap.size < w2.heap.size := cell_lt c0_0; replace l1_0 : w.heap.size + 1 < w2.heap.size := cell_lt c1_0; clear hk))
        go_ret
        exact ⟨ret_bool (by rw [H.out]; rfl), K⟩
end Go.Proofs.Ytcpbemoiodbliaa
