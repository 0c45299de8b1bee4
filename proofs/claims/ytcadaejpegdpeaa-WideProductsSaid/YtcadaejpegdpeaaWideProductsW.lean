/- The walk of WideProducts. -/
import Derived.Test.YtcadaejpegdpeaaRM
import Derived.Test.YtcadaejpegdpeaaWA
namespace Go.Proofs.Ytcadaejpegdpeaa
open Go.RowKit Go.Proofs.Num Go.Proofs.Geo
set_option maxHeartbeats 8000000 in
set_option maxRecDepth 100000 in
theorem rmul_any (a b : Int) (ha : I64 a) (hb : I64 b) (w : World) : Calls Try.prog 11 #[.int .i64 a, .int .i64 b] w fun e w' => e = .returned (.tuple #[.int .u64 (mulH a b), .int .u64 (mulL a b), .int .i64 (mulS a b)]) ∧ Kp w w' := by
  have h := rmul_core a b _ _ _ ha hb rfl rfl rfl w
  have ms := mul_size ha hb
  have he := w_end (V := ((a * b).natAbs : Int)) (by omega) (by omega)
  have e1 : mulH a b = ((a * b).natAbs : Int) / 18446744073709551616 := by unfold mulH; rw [Int.natAbs_mul]; rfl
  have e2 : mulL a b = ((a * b).natAbs : Int) % 18446744073709551616 := by unfold mulL; rw [Int.natAbs_mul]; rfl
  rw [he.1, he.2, ← e1, ← e2, ← mulS_eq] at h
  exact h
theorem wideProducts_walk (a : Int) (ha : I64 a) (b : Int) (hb : I64 b) (c : Int) (hc : I64 c) (d : Int) (hd : I64 d) (w : World) : Calls Try.prog 3 #[.int .i64 a, .int .i64 b, .int .i64 c, .int .i64 d] w fun e w' => e = .returned (.bool true) ∧ Kp w w' := by
  have m1 := fun w => mul_any a b ha hb w
  have m2 := fun w => rmul_any a b ha hb w
  have s1 := fun w => wsign_any a b c d ha hb hc hd w
  have s2 := fun w => rsign_any a b c d ha hb hc hd w
  generalize mulH a b = H at *
  generalize mulL a b = L at *
  generalize mulS a b = S at *
  generalize dif a b c d = D at *
  have n1 : (H == H) = true := by simp
  have n2 : (L == L) = true := by simp
  have n3 : (S == S) = true := by simp
  have n4 : (D == D) = true := by simp
  have M1 := Lib.hid m1; have M2 := Lib.hid m2; have S1 := Lib.hid s1; have S2 := Lib.hid s2
  clear m1 m2 s1 s2 ha hb hc hd
  go_enter Try.func3, Try.ntmps3
  go_wp2_with fail
  go_at_call 10; refine (M1.out _).mono ?_; rintro e w' ⟨rfl, rfl⟩
  go_wp2_with fail
  go_at_call 11; refine (M2.out _).mono ?_; rintro e w2 ⟨rfl, k2⟩
  go_wp2_with fail
  go_at_call 12; refine (S1.out _).mono ?_; rintro e w3 ⟨rfl, k3⟩
  go_wp2_with fail
  go_at_call 13; refine (S2.out _).mono ?_; rintro e w4 ⟨rfl, k4⟩
  go_wp2_with fail
  go_at_call 14; refine (awake01_any _).mono ?_; rintro e w5 ⟨rfl, k5⟩
  go_wp2_with fail
  go_ret
  exact ⟨rfl, kp_trans (kp_trans (kp_trans k2 k3) k4) k5⟩
end Go.Proofs.Ytcadaejpegdpeaa
