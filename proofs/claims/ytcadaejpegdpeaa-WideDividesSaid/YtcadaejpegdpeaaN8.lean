/- Contracts: the document's sign of a difference of two products. -/
import Derived.Test.YtcadaejpegdpeaaN7
import Derived.Test.YtcadaejpegdpeaaW5
namespace Go.Proofs.Ytcadaejpegdpeaa
open Go.RowKit Go.Proofs.Num Go.Proofs.Geo

theorem mulN_any (a b : Int) (ha : I64 a) (hb : I64 b) (w : World) :
    Calls Try.prog 29 #[.agg (numI a), .agg (numI b)] w fun e w' => e = .returned (.agg (numI (a * b))) ∧ Kp w w' := by
  unfold I64 at ha hb
  have h4 : ∀ X : Int, 0 ≤ X → X < 18446744073709551616 → sh X 4 = 0 := fun X h0 h => by show X / 65536 / 65536 / 65536 / 65536 = 0; omega
  have hbd : (a.natAbs : Int) * b.natAbs < top12 := by
    have := Int.mul_le_mul (show (a.natAbs : Int) ≤ 9223372036854775808 by omega) (show (b.natAbs : Int) ≤ 9223372036854775808 by omega) (by omega) (by omega)
    unfold top12; omega
  have ea : (a.natAbs : Int) = if a < 0 then -a else a := by split <;> omega
  have eb : (b.natAbs : Int) = if b < 0 then -b else b := by split <;> omega
  refine mul_core (decide (a < 0)) (decide (b < 0)) _ a.natAbs b.natAbs (a * b) (h4 _ (by omega) (by omega)) (h4 _ (by omega) (by omega)) hbd rfl ?_ w
  rw [ea, eb]
  by_cases k1 : a < 0 <;> by_cases k2 : b < 0 <;> simp [k1, k2] <;> grind
theorem mul_size {a b : Int} (ha : I64 a) (hb : I64 b) : (a * b).natAbs ≤ 85070591730234615865843651857942052864 := by
  unfold I64 at ha hb
  rw [Int.natAbs_mul]
  have := Nat.mul_le_mul (show a.natAbs ≤ 9223372036854775808 by omega) (show b.natAbs ≤ 9223372036854775808 by omega)
  omega

set_option maxHeartbeats 8000000 in
set_option maxRecDepth 100000 in
theorem rsign_any (a b c d : Int) (ha : I64 a) (hb : I64 b) (hc : I64 c) (hd : I64 d) (w : World) : Calls Try.prog 13 #[.int .i64 a, .int .i64 b, .int .i64 c, .int .i64 d] w fun e w' =>
    e = .returned (.int .i64 (dif a b c d)) ∧ Kp w w' := by
  have c1 := Lib.hid (of_any a ha)
  have c2 := Lib.hid (of_any b hb)
  have c3 := Lib.hid (mulN_any a b ha hb)
  have c4 := Lib.hid (of_any c hc)
  have c5 := Lib.hid (of_any d hd)
  have c6 := Lib.hid (mulN_any c d hc hd)
  have m1 := mul_size ha hb
  have m2 := mul_size hc hd
  have c7 := Lib.hid (less_any (c * d) (by unfold Sm top12; omega))
  have c8 := Lib.hid (plus_any (a * b) (-(c * d)) (by unfold top12; omega))
  have c9 := Lib.hid (sgn_any (a * b + -(c * d)) (by unfold Sm top12; omega))
  have he := Lib.hid (show (a * b + -(c * d)).sign = dif a b c d by unfold dif; rw [Int.sub_eq_add_neg])
  clear ha hb hc hd m1 m2
  generalize a * b = x at *
  generalize c * d = y at *
  generalize x + -y = s at *
  go_enter Try.func13, Try.ntmps13
  go_wp2_with fail
  go_at_call 28; refine (c1.out _).mono ?_; rintro e w1 ⟨rfl, k1⟩
  go_wp2_with fail
  go_at_call 28; refine (c2.out _).mono ?_; rintro e w2 ⟨rfl, k2⟩
  go_wp2_with fail
  go_at_call 29; refine (c3.out _).mono ?_; rintro e w3 ⟨rfl, k3⟩
  go_wp2_with fail
  go_at_call 28; refine (c4.out _).mono ?_; rintro e w4 ⟨rfl, k4⟩
  go_wp2_with fail
  go_at_call 28; refine (c5.out _).mono ?_; rintro e w5 ⟨rfl, k5⟩
  go_wp2_with fail
  go_at_call 29; refine (c6.out _).mono ?_; rintro e w6 ⟨rfl, k6⟩
  go_wp2_with fail
  go_at_call 35; refine (c7.out _).mono ?_; rintro e w7 ⟨rfl, k7⟩
  go_wp2_with fail
  go_at_call 34; refine (c8.out _).mono ?_; rintro e w8 ⟨rfl, k8⟩
  go_wp2_with fail
  go_at_call 30; refine (c9.out _).mono ?_; rintro e w9 ⟨rfl, k9⟩
  go_wp2_with fail
  go_ret
  exact ⟨ret_int he.out, kp_trans (kp_trans (kp_trans (kp_trans (kp_trans (kp_trans (kp_trans (kp_trans k1 k2) k3) k4) k5) k6) k7) k8) k9⟩
end Go.Proofs.Ytcadaejpegdpeaa
