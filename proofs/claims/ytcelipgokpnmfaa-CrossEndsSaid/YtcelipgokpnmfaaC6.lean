/- The small functions of the chapter on segments: at, awake, may. -/
import Derived.Test.YtcelipgokpnmfaaC5
namespace Go.Proofs.Ytcelipgokpnmfaa
open Go.RowKit Go.Proofs.Geo

theorem at08_any (x y : Int) (w : World) : Calls Try.prog 17 #[.int .i64 x, .int .i64 y] w fun e w' => e = .returned (pv x y) ∧ Kp w w' := by
  go_enter Try.func17, Try.ntmps17
  go_wp2
  exact bodyPost_ret (v := pv x y) (by simp [results, Try.results17, go_sem]) rfl ⟨rfl, kp_alloc (kp_refl _) _⟩

theorem eval_m1 : meets (0, 0) (4, 4) (0, 4) (4, 0) = 2 := by decide
theorem eval_m2 : meets (0, 0) (4, 0) (2, 0) (2, 5) = 1 := by decide
theorem eval_m3 : meets (0, 0) (4, 0) (3, 0) (9, 0) = 3 := by decide
theorem eval_m4 : meets (0, 0) (4, 0) (0, 1) (4, 1) = 0 := by decide

set_option maxHeartbeats 8000000 in
set_option maxRecDepth 100000 in
theorem awake08_any (w : World) : Calls Try.prog 14 #[] w fun e w' => e = .returned (.bool true) ∧ Kp w w' := by
  have h1 := eval_m1
  have h2 := eval_m2
  have h3 := eval_m3
  have h4 := eval_m4
  have K : Hid (Kp w w) := Lib.hid (kp_refl w)
  go_enter Try.func14, Try.ntmps14
  go_wp2_with (first
    | (go_at_call 17; refine (at08_any _ _ _).mono ?_; rintro e w' ⟨rfl, hk⟩; replace K := Lib.hid (kp_trans K.out hk); clear hk)
    | (go_at_call 9; refine (meets_any _ _ _ _ _ _ _ _ _).mono ?_; rintro e w' ⟨rfl, hk⟩; replace K := Lib.hid (kp_trans K.out hk); clear hk))
  go_ret
  exact ⟨rfl, K.out⟩

set_option maxHeartbeats 4000000 in
set_option maxRecDepth 100000 in
theorem may08_any (ax ay bx bY : Int) (w : World) : Calls Try.prog 15 #[pv ax ay, pv bx bY] w fun e w' => e = .returned (.bool (may (ax, ay) (bx, bY))) ∧ Kp w w' := by
  cases ha : okP (ax, ay)
  · have H := Lib.hid (may_f1 (b := (bx, bY)) ha)
    go_enter Try.func15, Try.ntmps15
    go_wp2_with (first
      | (go_at_call_of 28 (Value.agg #[Value.int .i64 ax, Value.int .i64 ay]); refine (valid_any _ _ _).mono ?_; rintro e w1 ⟨rfl, hk⟩; have c0 : w1.cell? ⟨w.heap.size, 0, none⟩ = some (.int .i64 ax) := kp_cell hk (by simp [go_sem]); have c1 : w1.cell? ⟨w.heap.size, 1, none⟩ = some (.int .i64 ay) := kp_cell hk (by simp [go_sem]); have c2 : w1.cell? ⟨w.heap.size + 1, 0, none⟩ = some (.int .i64 bx) := kp_cell hk (by simp [go_sem]); have c3 : w1.cell? ⟨w.heap.size + 1, 1, none⟩ = some (.int .i64 bY) := kp_cell hk (by simp [go_sem]); have K : Kp w w1 := kp_trans (by repeat (first | exact kp_refl _ | apply kp_alloc | apply kp_drew)) hk; have l0 : w.heap.size < w1.heap.size := cell_lt c0; have l2 : w.heap.size + 1 < w1.heap.size := cell_lt c2; have HK := Lib.hid K; clear K hk)
      | (go_at_call 28; refine (valid_any _ _ _).mono ?_; rintro e w2 ⟨rfl, hk⟩; have HK2 := Lib.hid (kp_trans HK.out hk); replace c0 : w2.cell? ⟨w.heap.size, 0, none⟩ = some (.int .i64 ax) := kp_cell hk c0; replace c1 : w2.cell? ⟨w.heap.size, 1, none⟩ = some (.int .i64 ay) := kp_cell hk c1; replace c2 : w2.cell? ⟨w.heap.size + 1, 0, none⟩ = some (.int .i64 bx) := kp_cell hk c2; replace c3 : w2.cell? ⟨w.heap.size + 1, 1, none⟩ = some (.int .i64 bY) := kp_cell hk c3; replace l0 : w.heap.size < w2.heap.size := cell_lt c0; replace l2 : w.heap.size + 1 < w2.heap.size := cell_lt c2; clear hk))
    go_ret
    exact ⟨ret_bool (H.out.symm), HK.out⟩
  · cases hb : okP (bx, bY)
    · have H := Lib.hid (may_f2 ha hb)
      go_enter Try.func15, Try.ntmps15
      go_wp2_with (first
        | (go_at_call_of 28 (Value.agg #[Value.int .i64 ax, Value.int .i64 ay]); refine (valid_any _ _ _).mono ?_; rintro e w1 ⟨rfl, hk⟩; have c0 : w1.cell? ⟨w.heap.size, 0, none⟩ = some (.int .i64 ax) := kp_cell hk (by simp [go_sem]); have c1 : w1.cell? ⟨w.heap.size, 1, none⟩ = some (.int .i64 ay) := kp_cell hk (by simp [go_sem]); have c2 : w1.cell? ⟨w.heap.size + 1, 0, none⟩ = some (.int .i64 bx) := kp_cell hk (by simp [go_sem]); have c3 : w1.cell? ⟨w.heap.size + 1, 1, none⟩ = some (.int .i64 bY) := kp_cell hk (by simp [go_sem]); have K : Kp w w1 := kp_trans (by repeat (first | exact kp_refl _ | apply kp_alloc | apply kp_drew)) hk; have l0 : w.heap.size < w1.heap.size := cell_lt c0; have l2 : w.heap.size + 1 < w1.heap.size := cell_lt c2; have HK := Lib.hid K; clear K hk)
        | (go_at_call 28; refine (valid_any _ _ _).mono ?_; rintro e w2 ⟨rfl, hk⟩; have HK2 := Lib.hid (kp_trans HK.out hk); replace c0 : w2.cell? ⟨w.heap.size, 0, none⟩ = some (.int .i64 ax) := kp_cell hk c0; replace c1 : w2.cell? ⟨w.heap.size, 1, none⟩ = some (.int .i64 ay) := kp_cell hk c1; replace c2 : w2.cell? ⟨w.heap.size + 1, 0, none⟩ = some (.int .i64 bx) := kp_cell hk c2; replace c3 : w2.cell? ⟨w.heap.size + 1, 1, none⟩ = some (.int .i64 bY) := kp_cell hk c3; replace l0 : w.heap.size < w2.heap.size := cell_lt c0; replace l2 : w.heap.size + 1 < w2.heap.size := cell_lt c2; clear hk))
      go_ret
      exact ⟨ret_bool (H.out.symm), HK2.out⟩
    · have H := Lib.hid (may_t ha hb)
      by_cases ex : ax = bx
      · subst ex
        by_cases ey : ay = bY
        · subst ey
          have hv : okP (ax, ay) = true := ha
          go_enter Try.func15, Try.ntmps15
          go_wp2_with fail
          refine (valid_any _ _ _).mono ?_; rintro e w1 ⟨rfl, hk⟩; have c0 : w1.cell? ⟨w.heap.size, 0, none⟩ = some (.int .i64 ax) := kp_cell hk (by simp [go_sem]); have c1 : w1.cell? ⟨w.heap.size, 1, none⟩ = some (.int .i64 ay) := kp_cell hk (by simp [go_sem]); have c2 : w1.cell? ⟨w.heap.size + 1, 0, none⟩ = some (.int .i64 ax) := kp_cell hk (by simp [go_sem]); have c3 : w1.cell? ⟨w.heap.size + 1, 1, none⟩ = some (.int .i64 ay) := kp_cell hk (by simp [go_sem]); have K : Kp w w1 := kp_trans (by repeat (first | exact kp_refl _ | apply kp_alloc | apply kp_drew)) hk; have l0 : w.heap.size < w1.heap.size := cell_lt c0; have l2 : w.heap.size + 1 < w1.heap.size := cell_lt c2; have HK := Lib.hid K; clear K hk
          go_wp2_with fail
          refine (valid_any _ _ _).mono ?_; rintro e w2 ⟨rfl, hk⟩; have HK2 := Lib.hid (kp_trans HK.out hk); replace c0 : w2.cell? ⟨w.heap.size, 0, none⟩ = some (.int .i64 ax) := kp_cell hk c0; replace c1 : w2.cell? ⟨w.heap.size, 1, none⟩ = some (.int .i64 ay) := kp_cell hk c1; replace c2 : w2.cell? ⟨w.heap.size + 1, 0, none⟩ = some (.int .i64 ax) := kp_cell hk c2; replace c3 : w2.cell? ⟨w.heap.size + 1, 1, none⟩ = some (.int .i64 ay) := kp_cell hk c3; replace l0 : w.heap.size < w2.heap.size := cell_lt c0; replace l2 : w.heap.size + 1 < w2.heap.size := cell_lt c2; clear hk
          go_wp2_with fail
          go_ret
          exact ⟨ret_bool (by rw [H.out]; simp), HK2.out⟩
        · have ey' : (ay == bY) = false := by simp [ey]
          have HY := Lib.hid ey
          clear ey
          go_enter Try.func15, Try.ntmps15
          go_wp2_with (first
            | (go_at_call_of 28 (Value.agg #[Value.int .i64 ax, Value.int .i64 ay]); refine (valid_any _ _ _).mono ?_; rintro e w1 ⟨rfl, hk⟩; have c0 : w1.cell? ⟨w.heap.size, 0, none⟩ = some (.int .i64 ax) := kp_cell hk (by simp [go_sem]); have c1 : w1.cell? ⟨w.heap.size, 1, none⟩ = some (.int .i64 ay) := kp_cell hk (by simp [go_sem]); have c2 : w1.cell? ⟨w.heap.size + 1, 0, none⟩ = some (.int .i64 ax) := kp_cell hk (by simp [go_sem]); have c3 : w1.cell? ⟨w.heap.size + 1, 1, none⟩ = some (.int .i64 bY) := kp_cell hk (by simp [go_sem]); have K : Kp w w1 := kp_trans (by repeat (first | exact kp_refl _ | apply kp_alloc | apply kp_drew)) hk; have l0 : w.heap.size < w1.heap.size := cell_lt c0; have l2 : w.heap.size + 1 < w1.heap.size := cell_lt c2; have HK := Lib.hid K; clear K hk)
            | (go_at_call 28; refine (valid_any _ _ _).mono ?_; rintro e w2 ⟨rfl, hk⟩; have HK2 := Lib.hid (kp_trans HK.out hk); replace c0 : w2.cell? ⟨w.heap.size, 0, none⟩ = some (.int .i64 ax) := kp_cell hk c0; replace c1 : w2.cell? ⟨w.heap.size, 1, none⟩ = some (.int .i64 ay) := kp_cell hk c1; replace c2 : w2.cell? ⟨w.heap.size + 1, 0, none⟩ = some (.int .i64 ax) := kp_cell hk c2; replace c3 : w2.cell? ⟨w.heap.size + 1, 1, none⟩ = some (.int .i64 bY) := kp_cell hk c3; replace l0 : w.heap.size < w2.heap.size := cell_lt c0; replace l2 : w.heap.size + 1 < w2.heap.size := cell_lt c2; clear hk))
          go_ret
          exact ⟨ret_bool (by rw [H.out]; simp [HY.out]), HK2.out⟩
      · have ex' : (ax == bx) = false := by simp [ex]
        have HX := Lib.hid ex
        clear ex
        go_enter Try.func15, Try.ntmps15
        go_wp2_with (first
          | (go_at_call_of 28 (Value.agg #[Value.int .i64 ax, Value.int .i64 ay]); refine (valid_any _ _ _).mono ?_; rintro e w1 ⟨rfl, hk⟩; have c0 : w1.cell? ⟨w.heap.size, 0, none⟩ = some (.int .i64 ax) := kp_cell hk (by simp [go_sem]); have c1 : w1.cell? ⟨w.heap.size, 1, none⟩ = some (.int .i64 ay) := kp_cell hk (by simp [go_sem]); have c2 : w1.cell? ⟨w.heap.size + 1, 0, none⟩ = some (.int .i64 bx) := kp_cell hk (by simp [go_sem]); have c3 : w1.cell? ⟨w.heap.size + 1, 1, none⟩ = some (.int .i64 bY) := kp_cell hk (by simp [go_sem]); have K : Kp w w1 := kp_trans (by repeat (first | exact kp_refl _ | apply kp_alloc | apply kp_drew)) hk; have l0 : w.heap.size < w1.heap.size := cell_lt c0; have l2 : w.heap.size + 1 < w1.heap.size := cell_lt c2; have HK := Lib.hid K; clear K hk)
          | (go_at_call 28; refine (valid_any _ _ _).mono ?_; rintro e w2 ⟨rfl, hk⟩; have HK2 := Lib.hid (kp_trans HK.out hk); replace c0 : w2.cell? ⟨w.heap.size, 0, none⟩ = some (.int .i64 ax) := kp_cell hk c0; replace c1 : w2.cell? ⟨w.heap.size, 1, none⟩ = some (.int .i64 ay) := kp_cell hk c1; replace c2 : w2.cell? ⟨w.heap.size + 1, 0, none⟩ = some (.int .i64 bx) := kp_cell hk c2; replace c3 : w2.cell? ⟨w.heap.size + 1, 1, none⟩ = some (.int .i64 bY) := kp_cell hk c3; replace l0 : w.heap.size < w2.heap.size := cell_lt c0; replace l2 : w.heap.size + 1 < w2.heap.size := cell_lt c2; clear hk))
        go_ret
        exact ⟨ret_bool (by rw [H.out]; simp [HX.out]), HK2.out⟩

end Go.Proofs.Ytcelipgokpnmfaa
