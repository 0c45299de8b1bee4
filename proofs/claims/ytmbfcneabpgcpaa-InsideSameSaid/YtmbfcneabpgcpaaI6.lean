/- Contracts: point.In; at, square, awake of the inside's chapter. -/
import Derived.Test.YtmbfcneabpgcpaaI5
import Derived.Test.YtmbfcneabpgcpaaPin
namespace Go.Proofs.Ytmbfcneabpgcpaa
open Go.RowKit Go.Proofs.Geo

theorem at10_any (x y : Int) (w : World) : Calls Try.prog 16 #[.int .i64 x, .int .i64 y] w fun e w' => e = .returned (pv x y) ∧ Kp w w' := by
  go_enter Try.func16, Try.ntmps16
  go_wp2
  exact bodyPost_ret (v := pv x y) (by simp [results, Try.results16, go_sem]) rfl ⟨rfl, kp_alloc (kp_refl _) _⟩

def squareL : List Pt := [(0, 0), (4, 0), (4, 4), (0, 4)]
set_option maxHeartbeats 1000000 in
theorem square_any (w : World) : Calls Try.prog 23 #[] w (RetRd w squareL) := by
  have K : Hid (Kp w w) := Lib.hid (kp_refl w)
  go_enter Try.func23, Try.ntmps23
  go_wp2_with (go_at_call 16; refine (at10_any _ _ _).mono ?_; rintro e w' ⟨rfl, hk⟩; replace K := Lib.hid (kp_trans K.out hk); clear hk)
  go_ret
  refine ⟨_, rfl, rd_of (l := squareL) (by simp [squareL]) ?_, kp_alloc K.out _⟩
  unfold squareL
  repeat (first | exact ptsAt_nil _ _ _ | (refine PtsAt.cons (by simp [go_sem]) (by simp [go_sem]) ?_))

theorem eval_s1 : inB (1, 1) squareL = true := by decide
theorem eval_s2 : inB (0, 2) squareL = true := by decide
theorem eval_s3 : inB (4, 2) squareL = false := by decide
theorem eval_s4 : inB (2, 4) squareL = false := by decide
theorem eval_s5 : cnt (0, 0) (2, -1) (2, 1) = true := by decide

set_option maxHeartbeats 4000000 in
theorem awake10_any (w : World) : Calls Try.prog 10 #[] w fun e w' => e = .returned (.bool true) ∧ Kp w w' := by
  have h1 := eval_s1
  have h2 := eval_s2
  have h3 := eval_s3
  have h4 := eval_s4
  have h5 := eval_s5
  have K : Hid (Kp w w) := Lib.hid (kp_refl w)
  go_enter Try.func10, Try.ntmps10
  go_wp2_with (first
    | (go_at_call 16; refine (at10_any _ _ _).mono ?_; rintro e w' ⟨rfl, hk⟩; replace K := Lib.hid (kp_trans K.out hk); clear hk)
    | (go_at_call 23; refine (square_any _).mono ?_; rintro e w' ⟨v, rfl, hr, hk⟩; have HR := Lib.hid hr; replace K := Lib.hid (kp_trans K.out hk); clear hk hr)
    | (go_at_call 13; refine (in_rd _ _ _ squareL _ HR.out).mono ?_; clear HR; rintro e w' ⟨rfl, hk⟩; replace K := Lib.hid (kp_trans K.out hk); clear hk)
    | (go_at_call 17; refine (counts_any _ _ _ _ _ _ _).mono ?_; rintro e w' ⟨rfl, hk⟩; replace K := Lib.hid (kp_trans K.out hk); clear hk))
  go_ret
  exact ⟨rfl, K.out⟩

end Go.Proofs.Ytmbfcneabpgcpaa
