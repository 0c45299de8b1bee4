/- Contracts: the document's divisions, by whatever; the walk of WideDivides. -/
import Derived.Test.YtcadaejpegdpeaaPFL
import Derived.Test.YtcadaejpegdpeaaWA
namespace Go.Proofs.Ytcadaejpegdpeaa
open Go.RowKit Go.Proofs.Num Go.Proofs.Geo
set_option linter.unusedVariables false
theorem reven_zero (a b : Int) (w : World) : Calls Try.prog 16 #[.int .i64 a, .int .i64 b, .int .i64 0] w fun e w' => e = .returned (.tuple #[.int .i64 0, .int .i64 2]) ∧ Kp w w' := by
  go_enter Try.func16, Try.ntmps16
  go_wp2_with fail
  go_ret2
  exact ⟨rfl, by repeat (first | exact kp_refl _ | apply kp_alloc | apply kp_drew)⟩
theorem reven_any (a b c : Int) (ha : I64 a) (hb : I64 b) (hc : I64 c) (w : World) : Calls Try.prog 16 #[.int .i64 a, .int .i64 b, .int .i64 c] w fun e w' => e = .returned (.tuple #[.int .i64 (evR a b c).1, .int .i64 (evR a b c).2]) ∧ Kp w w' := by
  by_cases h : c = 0
  · subst h
    rw [show evR a b 0 = (0, 2) by unfold evR divR; rw [if_pos rfl]]
    exact reven_zero a b w
  · exact reven_core a b c ha hb hc h w
theorem rfloor_zero (a b : Int) (w : World) : Calls Try.prog 18 #[.int .i64 a, .int .i64 b, .int .i64 0] w fun e w' => e = .returned (.tuple #[.int .i64 0, .int .i64 2]) ∧ Kp w w' := by
  go_enter Try.func18, Try.ntmps18
  go_wp2_with fail
  go_ret2
  exact ⟨rfl, by repeat (first | exact kp_refl _ | apply kp_alloc | apply kp_drew)⟩
theorem rfloor_any (a b c : Int) (ha : I64 a) (hb : I64 b) (hc : I64 c) (w : World) : Calls Try.prog 18 #[.int .i64 a, .int .i64 b, .int .i64 c] w fun e w' => e = .returned (.tuple #[.int .i64 (flR a b c).1, .int .i64 (flR a b c).2]) ∧ Kp w w' := by
  by_cases h : c = 0
  · subst h
    rw [show flR a b 0 = (0, 2) by unfold flR divR; rw [if_pos rfl]]
    exact rfloor_zero a b w
  · exact rfloor_core a b c ha hb hc h w
set_option maxHeartbeats 8000000 in
set_option maxRecDepth 100000 in
theorem wideDivides_walk (w : World) (a : Int) (ha : I64 a) (b : Int) (hb : I64 b) (c : Int) (hc : I64 c) : Calls Try.prog 4 #[.int .i64 a, .int .i64 b, .int .i64 c] w fun e w' => e = .returned (.bool true) ∧ Kp w w' := by
  have c1 := fun w => even_any a b c ha hb hc w
  have c2 := fun w => reven_any a b c ha hb hc w
  have c3 := fun w => floor_any a b c ha hb hc w
  have c4 := fun w => rfloor_any a b c ha hb hc w
  generalize (evR a b c).1 = x1 at *
  generalize (evR a b c).2 = x2 at *
  generalize (flR a b c).1 = y1 at *
  generalize (flR a b c).2 = y2 at *
  have C1 := Lib.hid c1
  have C2 := Lib.hid c2
  have C3 := Lib.hid c3
  have C4 := Lib.hid c4
  clear c1 c2 c3 c4
  go_enter Try.func4, Try.ntmps4
  go_wp2_with (first
    | (go_at_call 15; refine (C1.out _).mono ?_; rintro e w1 ⟨rfl, hk⟩; have K := Lib.hid hk; clear hk)
    | (go_at_call 16; refine (C2.out _).mono ?_; rintro e w2 ⟨rfl, hk⟩; replace K := Lib.hid (kp_trans K.out hk); clear hk)
    | (go_at_call 17; refine (C3.out _).mono ?_; rintro e w3 ⟨rfl, hk⟩; replace K := Lib.hid (kp_trans K.out hk); clear hk)
    | (go_at_call 18; refine (C4.out _).mono ?_; rintro e w4 ⟨rfl, hk⟩; replace K := Lib.hid (kp_trans K.out hk); clear hk)
    | (go_at_call 14; refine (awake01_any _).mono ?_; rintro e w5 ⟨rfl, hk⟩; replace K := Lib.hid (kp_trans K.out hk); clear hk))
  go_ret
  exact ⟨by simp, K.out⟩
end Go.Proofs.Ytcadaejpegdpeaa
