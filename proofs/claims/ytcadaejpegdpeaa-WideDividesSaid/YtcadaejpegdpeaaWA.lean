/- Contracts of the law file of wide: even, floor, awake. -/
import Derived.Test.YtcadaejpegdpeaaWE
import Derived.Test.YtcadaejpegdpeaaWS
namespace Go.Proofs.Ytcadaejpegdpeaa
open Go.RowKit Go.Proofs.Geo
theorem leven_any (a b c n : Int) (ha : I64 a) (hb : I64 b) (hc : I64 c) (w : World) : Calls Try.prog 23 #[.int .i64 a, .int .i64 b, .int .i64 c, .int .i64 n] w fun e w' => e = .returned (.bool ((evR a b c).1 == n && (evR a b c).2 == 0)) ∧ Kp w w' := by
  have hd := fun w => even_any a b c ha hb hc w
  generalize (evR a b c).1 = x at *
  generalize (evR a b c).2 = y at *
  have HD := Lib.hid hd
  clear hd
  cases h1 : (x == n)
  · go_enter Try.func23, Try.ntmps23
    go_wp2_with (go_at_call 15; refine (HD.out _).mono ?_; rintro e w2 ⟨rfl, hk⟩)
    go_ret
    exact ⟨rfl, hk⟩
  · go_enter Try.func23, Try.ntmps23
    go_wp2_with (go_at_call 15; refine (HD.out _).mono ?_; rintro e w2 ⟨rfl, hk⟩)
    go_ret
    exact ⟨ret_bool (by simp), hk⟩
theorem lfloor_any (a b c n : Int) (ha : I64 a) (hb : I64 b) (hc : I64 c) (w : World) : Calls Try.prog 24 #[.int .i64 a, .int .i64 b, .int .i64 c, .int .i64 n] w fun e w' => e = .returned (.bool ((flR a b c).1 == n && (flR a b c).2 == 0)) ∧ Kp w w' := by
  have hd := fun w => floor_any a b c ha hb hc w
  generalize (flR a b c).1 = x at *
  generalize (flR a b c).2 = y at *
  have HD := Lib.hid hd
  clear hd
  cases h1 : (x == n)
  · go_enter Try.func24, Try.ntmps24
    go_wp2_with (go_at_call 17; refine (HD.out _).mono ?_; rintro e w2 ⟨rfl, hk⟩)
    go_ret
    exact ⟨rfl, hk⟩
  · go_enter Try.func24, Try.ntmps24
    go_wp2_with (go_at_call 17; refine (HD.out _).mono ?_; rintro e w2 ⟨rfl, hk⟩)
    go_ret
    exact ⟨ret_bool (by simp), hk⟩
set_option maxHeartbeats 8000000 in
set_option maxRecDepth 100000 in
theorem awake01_any (w : World) : Calls Try.prog 14 #[] w fun e w' => e = .returned (.bool true) ∧ Kp w w' := by
  have M10 := fun w => mul_any 4611686018427387904 (-8) ⟨by decide, by decide⟩ ⟨by decide, by decide⟩ w
  rw [show mulH 4611686018427387904 (-8) = 2 from by decide, show mulL 4611686018427387904 (-8) = 0 from by decide, show mulS 4611686018427387904 (-8) = -1 from by decide] at M10
  have M1 := Lib.hid M10
  clear M10
  have S10 := fun w => wsign_any 3 4 2 6 ⟨by decide, by decide⟩ ⟨by decide, by decide⟩ ⟨by decide, by decide⟩ ⟨by decide, by decide⟩ w
  rw [show dif 3 4 2 6 = 0 from by decide] at S10
  have S1 := Lib.hid S10
  clear S10
  have E10 := fun w => leven_any 5 1 2 2 ⟨by decide, by decide⟩ ⟨by decide, by decide⟩ ⟨by decide, by decide⟩ w
  rw [show ((evR 5 1 2).1 == 2 && (evR 5 1 2).2 == 0) = true from by decide] at E10
  have E1 := Lib.hid E10
  clear E10
  have E20 := fun w => leven_any 7 1 2 4 ⟨by decide, by decide⟩ ⟨by decide, by decide⟩ ⟨by decide, by decide⟩ w
  rw [show ((evR 7 1 2).1 == 4 && (evR 7 1 2).2 == 0) = true from by decide] at E20
  have E2 := Lib.hid E20
  clear E20
  have F10 := fun w => lfloor_any (-5) 1 2 (-3) ⟨by decide, by decide⟩ ⟨by decide, by decide⟩ ⟨by decide, by decide⟩ w
  rw [show ((flR (-5) 1 2).1 == (-3) && (flR (-5) 1 2).2 == 0) = true from by decide] at F10
  have F1 := Lib.hid F10
  clear F10
  go_enter Try.func14, Try.ntmps14
  go_wp2_with fail
  go_at_call 10; refine (M1.out _).mono ?_; rintro e w1 ⟨rfl, rfl⟩
  go_wp2_with fail
  go_at_call 12; refine (S1.out _).mono ?_; rintro e w2 ⟨rfl, kw2⟩
  go_wp2_with fail
  go_at_call 23; refine (E1.out _).mono ?_; rintro e w3 ⟨rfl, kw3⟩
  go_wp2_with fail
  go_at_call 23; refine (E2.out _).mono ?_; rintro e w4 ⟨rfl, kw4⟩
  go_wp2_with fail
  go_at_call 24; refine (F1.out _).mono ?_; rintro e w5 ⟨rfl, kw5⟩
  go_wp2_with fail
  go_ret
  exact ⟨rfl, kp_trans (kp_trans (kp_trans kw2 kw3) kw4) kw5⟩
set_option maxHeartbeats 8000000 in
set_option maxRecDepth 100000 in
theorem wideKnown_walk (w : World) : Calls Try.prog 8 #[] w fun e w' => e = .returned (.bool true) ∧ Kp w w' := by
  have E10 := fun w => even_any 1 1 0 ⟨by decide, by decide⟩ ⟨by decide, by decide⟩ ⟨by decide, by decide⟩ w
  rw [show (evR 1 1 0).1 = 0 from by decide, show (evR 1 1 0).2 = 2 from by decide] at E10
  have E1 := Lib.hid E10
  clear E10
  have E20 := fun w => even_any 4611686018427387904 4 1 ⟨by decide, by decide⟩ ⟨by decide, by decide⟩ ⟨by decide, by decide⟩ w
  rw [show (evR 4611686018427387904 4 1).1 = 0 from by decide, show (evR 4611686018427387904 4 1).2 = 5 from by decide] at E20
  have E2 := Lib.hid E20
  clear E20
  have A10 := fun w => wadd_any 4611686018427387904 4611686018427387904 ⟨by decide, by decide⟩ ⟨by decide, by decide⟩ w
  rw [show (sumI (4611686018427387904 + 4611686018427387904)).1 = 0 from by decide, show (sumI (4611686018427387904 + 4611686018427387904)).2 = 5 from by decide] at A10
  have A1 := Lib.hid A10
  clear A10
  have T1 : ∀ w : World, Calls Try.prog 19 #[.slice (some ⟨w.heap.size, 0, none⟩) 3 3] (w.alloc (.cells #[.int .i64 4611686018427387904, .int .i64 4611686018427387904, .int .i64 (-4611686018427387904)] 3)) fun e w' => e = .returned (.tuple #[.int .i64 4611686018427387904, .int .i64 0]) ∧ (w.alloc (.cells #[.int .i64 4611686018427387904, .int .i64 4611686018427387904, .int .i64 (-4611686018427387904)] 3)) = w' := fun w => sum_any _ [4611686018427387904, 4611686018427387904, -4611686018427387904] _ (rdI_lit w [4611686018427387904, 4611686018427387904, -4611686018427387904] 3 3 (by simp) (by intro x hx; simp at hx; rcases hx with rfl | rfl <;> exact ⟨by decide, by decide⟩) rfl)
  have T1 := Lib.hid T1
  have T2 : ∀ w : World, Calls Try.prog 19 #[.slice none 0 0] w fun e w' => e = .returned (.tuple #[.int .i64 0, .int .i64 0]) ∧ w = w' := fun w => sum_any _ [] w ⟨by simp, by simp, .inl ⟨rfl, rfl⟩⟩
  have T2 := Lib.hid T2
  have M10 := fun w => mul_any 0 5 ⟨by decide, by decide⟩ ⟨by decide, by decide⟩ w
  rw [show mulH 0 5 = 0 from by decide, show mulL 0 5 = 0 from by decide, show mulS 0 5 = 0 from by decide] at M10
  have M1 := Lib.hid M10
  clear M10
  have S10 := fun w => wsign_any 4611686018427387904 4611686018427387904 4611686018427387904 4611686018427387903 ⟨by decide, by decide⟩ ⟨by decide, by decide⟩ ⟨by decide, by decide⟩ ⟨by decide, by decide⟩ w
  rw [show dif 4611686018427387904 4611686018427387904 4611686018427387904 4611686018427387903 = 1 from by decide] at S10
  have S1 := Lib.hid S10
  clear S10
  have S20 := fun w => wsign_any (-1) 1 0 0 ⟨by decide, by decide⟩ ⟨by decide, by decide⟩ ⟨by decide, by decide⟩ ⟨by decide, by decide⟩ w
  rw [show dif (-1) 1 0 0 = -1 from by decide] at S20
  have S2 := Lib.hid S20
  clear S20
  have E30 := fun w => leven_any (-5) 1 2 (-2) ⟨by decide, by decide⟩ ⟨by decide, by decide⟩ ⟨by decide, by decide⟩ w
  rw [show ((evR (-5) 1 2).1 == (-2) && (evR (-5) 1 2).2 == 0) = true from by decide] at E30
  have E3 := Lib.hid E30
  clear E30
  have F10 := fun w => lfloor_any 4611686018427387904 8 16 2305843009213693952 ⟨by decide, by decide⟩ ⟨by decide, by decide⟩ ⟨by decide, by decide⟩ w
  rw [show ((flR 4611686018427387904 8 16).1 == 2305843009213693952 && (flR 4611686018427387904 8 16).2 == 0) = true from by decide] at F10
  have F1 := Lib.hid F10
  clear F10
  go_enter Try.func8, Try.ntmps8
  go_wp2_with fail
  go_at_call 15; refine (E1.out _).mono ?_; rintro e w1 ⟨rfl, kw1⟩
  go_wp2_with fail
  go_at_call 15; refine (E2.out _).mono ?_; rintro e w2 ⟨rfl, kw2⟩
  go_wp2_with fail
  go_at_call 21; refine (A1.out _).mono ?_; rintro e w3 ⟨rfl, kw3⟩
  go_wp2_with fail
  go_at_call 19; refine (T1.out _).mono ?_; rintro e w4 ⟨rfl, rfl⟩
  go_wp2_with fail
  go_at_call 19; refine (T2.out _).mono ?_; rintro e w5 ⟨rfl, rfl⟩
  go_wp2_with fail
  go_at_call 10; refine (M1.out _).mono ?_; rintro e w6 ⟨rfl, rfl⟩
  go_wp2_with fail
  go_at_call 12; refine (S1.out _).mono ?_; rintro e w7 ⟨rfl, kw7⟩
  go_wp2_with fail
  go_at_call 12; refine (S2.out _).mono ?_; rintro e w8 ⟨rfl, kw8⟩
  go_wp2_with fail
  go_at_call 23; refine (E3.out _).mono ?_; rintro e w9 ⟨rfl, kw9⟩
  go_wp2_with fail
  go_at_call 24; refine (F1.out _).mono ?_; rintro e w10 ⟨rfl, kw10⟩
  go_wp2_with fail
  go_at_call 14; refine (awake01_any _).mono ?_; rintro e w11 ⟨rfl, kw11⟩
  go_wp2_with fail
  go_ret
  exact ⟨rfl, kp_trans (kp_trans (kp_trans (kp_trans (kp_trans (kp_alloc (kp_trans (kp_trans kw1 kw2) kw3) _) kw7) kw8) kw9) kw10) kw11⟩
end Go.Proofs.Ytcadaejpegdpeaa
