/- Contracts of money and its reference: Check, CheckRate, Tax, Share. -/
import Derived.Test.YtcmijedhjebpkaaMP1
import Derived.Test.YtcmijedhjebpkaaWE
import Derived.Test.YtcmijedhjebpkaaPEV
import Derived.IntWalk
namespace Go.Proofs.Ytcmijedhjebpkaa
open Go.RowKit Go.Proofs.Geo Go.Proofs.Mon
set_option linter.unusedVariables false
theorem mcheck_any (n : Int) (w : World) : Calls Try.prog 11 #[.int .i64 n] w fun e w' => e = .returned (.int .i64 (mchk n)) ∧ Kp w w' := by
  have K := Lib.hid (kp_refl w)
  by_cases h1 : n < -1099511627775
  · have hv := Lib.hid (show mchk n = 5 by unfold mchk; rw [if_pos h1])
    go_enter Try.func11, Try.ntmps11
    go_wp2
    go_ret
    exact ⟨by rw [hv.out]; rfl, K.out⟩
  · by_cases h2 : 1099511627775 < n
    · have hv := Lib.hid (show mchk n = 5 by unfold mchk; rw [if_neg h1, if_pos h2])
      go_enter Try.func11, Try.ntmps11
      go_wp2
      go_ret
      exact ⟨by rw [hv.out]; rfl, K.out⟩
    · have hv := Lib.hid (show mchk n = 0 by unfold mchk; rw [if_neg h1, if_neg h2])
      go_enter Try.func11, Try.ntmps11
      go_wp2
      go_ret
      exact ⟨by rw [hv.out]; rfl, K.out⟩
theorem rmcheck_any (n : Int) (w : World) : Calls Try.prog 12 #[.int .i64 n] w fun e w' => e = .returned (.int .i64 (mchk n)) ∧ Kp w w' := by
  have K := Lib.hid (kp_refl w)
  by_cases h1 : n < -1099511627775
  · have hv := Lib.hid (show mchk n = 5 by unfold mchk; rw [if_pos h1])
    go_enter Try.func12, Try.ntmps12
    go_wp2
    go_ret
    exact ⟨by rw [hv.out]; rfl, K.out⟩
  · by_cases h2 : 1099511627775 < n
    · have hv := Lib.hid (show mchk n = 5 by unfold mchk; rw [if_neg h1, if_pos h2])
      go_enter Try.func12, Try.ntmps12
      go_wp2
      go_ret
      exact ⟨by rw [hv.out]; rfl, K.out⟩
    · have hv := Lib.hid (show mchk n = 0 by unfold mchk; rw [if_neg h1, if_neg h2])
      go_enter Try.func12, Try.ntmps12
      go_wp2
      go_ret
      exact ⟨by rw [hv.out]; rfl, K.out⟩
theorem crate_any (n : Int) (w : World) : Calls Try.prog 13 #[.int .i64 n] w fun e w' => e = .returned (.int .i64 (rchk n)) ∧ Kp w w' := by
  have K := Lib.hid (kp_refl w)
  by_cases h1 : n < 0
  · have hv := Lib.hid (show rchk n = 5 by unfold rchk; rw [if_pos h1])
    go_enter Try.func13, Try.ntmps13
    go_wp2
    go_ret
    exact ⟨by rw [hv.out]; rfl, K.out⟩
  · by_cases h2 : 1000000 < n
    · have hv := Lib.hid (show rchk n = 5 by unfold rchk; rw [if_neg h1, if_pos h2])
      go_enter Try.func13, Try.ntmps13
      go_wp2
      go_ret
      exact ⟨by rw [hv.out]; rfl, K.out⟩
    · have hv := Lib.hid (show rchk n = 0 by unfold rchk; rw [if_neg h1, if_neg h2])
      go_enter Try.func13, Try.ntmps13
      go_wp2
      go_ret
      exact ⟨by rw [hv.out]; rfl, K.out⟩
theorem rcrate_any (n : Int) (w : World) : Calls Try.prog 14 #[.int .i64 n] w fun e w' => e = .returned (.int .i64 (rchk n)) ∧ Kp w w' := by
  have K := Lib.hid (kp_refl w)
  by_cases h1 : n < 0
  · have hv := Lib.hid (show rchk n = 5 by unfold rchk; rw [if_pos h1])
    go_enter Try.func14, Try.ntmps14
    go_wp2
    go_ret
    exact ⟨by rw [hv.out]; rfl, K.out⟩
  · by_cases h2 : 1000000 < n
    · have hv := Lib.hid (show rchk n = 5 by unfold rchk; rw [if_neg h1, if_pos h2])
      go_enter Try.func14, Try.ntmps14
      go_wp2
      go_ret
      exact ⟨by rw [hv.out]; rfl, K.out⟩
    · have hv := Lib.hid (show rchk n = 0 by unfold rchk; rw [if_neg h1, if_neg h2])
      go_enter Try.func14, Try.ntmps14
      go_wp2
      go_ret
      exact ⟨by rw [hv.out]; rfl, K.out⟩
def taxR (a r : Int) : Int × Int := if mchk a = 0 then if rchk r = 0 then evR a r 1000000 else (0, 5) else (0, 5)
def shareR (t p o : Int) : Int × Int := if mchk t = 0 then if o < 1 then (0, 2) else if 1099511627775 < o then (0, 2) else if p < 0 then (0, 2) else if o < p then (0, 2) else evR t p o else (0, 5)
set_option maxHeartbeats 2000000 in
theorem tax_any (a r : Int) (w : World) : Calls Try.prog 15 #[.int .i64 a, .int .i64 r] w fun e w' => e = .returned (.tuple #[.int .i64 (taxR a r).1, .int .i64 (taxR a r).2]) ∧ Kp w w' := by
  have K : Kp w w := kp_refl _
  have ca := fun w => mcheck_any a w
  have cr := fun w => crate_any r w
  by_cases h1 : mchk a = 0
  · by_cases h2 : rchk r = 0
    · have hv : taxR a r = evR a r 1000000 := by unfold taxR; rw [if_pos h1, if_pos h2]
      have b1 := mchk_zero h1
      have b2 := rchk_zero h2
      have ce := even_any a r 1000000 (by unfold I64; omega) (by unfold I64; omega) (by unfold I64; omega)
      rw [hv]
      rw [h1] at ca; rw [h2] at cr
      generalize (evR a r 1000000).1 = x at *
      generalize (evR a r 1000000).2 = y at *
      have CA := Lib.hid ca; have CR := Lib.hid cr; have CE := Lib.hid ce
      clear ca cr ce hv h1 h2
      go_enter Try.func15, Try.ntmps15
      go_wp2_with (first
        | (go_at_call 11; refine (CA.out _).mono ?_; rintro e wk ⟨rfl, hk⟩; replace K := kp_trans K hk; clear hk)
        | (go_at_call 13; refine (CR.out _).mono ?_; rintro e wk ⟨rfl, hk⟩; replace K := kp_trans K hk; clear hk)
        | (go_at_call 29; refine (CE.out _).mono ?_; rintro e wk ⟨rfl, hk⟩; replace K := kp_trans K hk; clear hk))
      go_ret2
      exact ⟨rfl, K⟩
    · have hv := Lib.hid (show taxR a r = (0, 5) by unfold taxR; rw [if_pos h1, if_neg h2])
      rw [h1] at ca
      generalize rchk r = z at *
      have t1 : (z != 0) = true := by simpa using h2
      have CA := Lib.hid ca; have CR := Lib.hid cr
      clear ca cr h1 h2
      go_enter Try.func15, Try.ntmps15
      go_wp2_with (first
        | (go_at_call 11; refine (CA.out _).mono ?_; rintro e wk ⟨rfl, hk⟩; replace K := kp_trans K hk; clear hk)
        | (go_at_call 13; refine (CR.out _).mono ?_; rintro e wk ⟨rfl, hk⟩; replace K := kp_trans K hk; clear hk))
      go_ret2
      exact ⟨by rw [hv.out]; rfl, K⟩
  · have hv := Lib.hid (show taxR a r = (0, 5) by unfold taxR; rw [if_neg h1])
    generalize mchk a = z at *
    have t1 : (z != 0) = true := by simpa using h1
    have CA := Lib.hid ca
    clear ca cr h1
    go_enter Try.func15, Try.ntmps15
    go_wp2_with (go_at_call 11; refine (CA.out _).mono ?_; rintro e wk ⟨rfl, hk⟩; replace K := kp_trans K hk; clear hk)
    go_ret2
    exact ⟨by rw [hv.out]; rfl, K⟩
set_option maxHeartbeats 2000000 in
theorem rtax_any (a r : Int) (w : World) : Calls Try.prog 16 #[.int .i64 a, .int .i64 r] w fun e w' => e = .returned (.tuple #[.int .i64 (taxR a r).1, .int .i64 (taxR a r).2]) ∧ Kp w w' := by
  have K : Kp w w := kp_refl _
  have ca := fun w => rmcheck_any a w
  have cr := fun w => rcrate_any r w
  by_cases h1 : mchk a = 0
  · by_cases h2 : rchk r = 0
    · have hv : taxR a r = evR a r 1000000 := by unfold taxR; rw [if_pos h1, if_pos h2]
      have b1 := mchk_zero h1
      have b2 := rchk_zero h2
      have ce := reven_core a r 1000000 (by unfold I64; omega) (by unfold I64; omega) (by unfold I64; omega) (by decide)
      rw [hv]
      rw [h1] at ca; rw [h2] at cr
      generalize (evR a r 1000000).1 = x at *
      generalize (evR a r 1000000).2 = y at *
      have CA := Lib.hid ca; have CR := Lib.hid cr; have CE := Lib.hid ce
      clear ca cr ce hv h1 h2
      go_enter Try.func16, Try.ntmps16
      go_wp2_with (first
        | (go_at_call 12; refine (CA.out _).mono ?_; rintro e wk ⟨rfl, hk⟩; replace K := kp_trans K hk; clear hk)
        | (go_at_call 14; refine (CR.out _).mono ?_; rintro e wk ⟨rfl, hk⟩; replace K := kp_trans K hk; clear hk)
        | (go_at_call 30; refine (CE.out _).mono ?_; rintro e wk ⟨rfl, hk⟩; replace K := kp_trans K hk; clear hk))
      go_ret2
      exact ⟨rfl, K⟩
    · have hv := Lib.hid (show taxR a r = (0, 5) by unfold taxR; rw [if_pos h1, if_neg h2])
      rw [h1] at ca
      generalize rchk r = z at *
      have t1 : (z != 0) = true := by simpa using h2
      have CA := Lib.hid ca; have CR := Lib.hid cr
      clear ca cr h1 h2
      go_enter Try.func16, Try.ntmps16
      go_wp2_with (first
        | (go_at_call 12; refine (CA.out _).mono ?_; rintro e wk ⟨rfl, hk⟩; replace K := kp_trans K hk; clear hk)
        | (go_at_call 14; refine (CR.out _).mono ?_; rintro e wk ⟨rfl, hk⟩; replace K := kp_trans K hk; clear hk))
      go_ret2
      exact ⟨by rw [hv.out]; rfl, K⟩
  · have hv := Lib.hid (show taxR a r = (0, 5) by unfold taxR; rw [if_neg h1])
    generalize mchk a = z at *
    have t1 : (z != 0) = true := by simpa using h1
    have CA := Lib.hid ca
    clear ca cr h1
    go_enter Try.func16, Try.ntmps16
    go_wp2_with (go_at_call 12; refine (CA.out _).mono ?_; rintro e wk ⟨rfl, hk⟩; replace K := kp_trans K hk; clear hk)
    go_ret2
    exact ⟨by rw [hv.out]; rfl, K⟩
set_option maxHeartbeats 2000000 in
theorem share_any (t p o : Int) (w : World) : Calls Try.prog 17 #[.int .i64 t, .int .i64 p, .int .i64 o] w fun e w' => e = .returned (.tuple #[.int .i64 (shareR t p o).1, .int .i64 (shareR t p o).2]) ∧ Kp w w' := by
  have K : Kp w w := kp_refl _
  have ca := fun w => mcheck_any t w
  by_cases h0 : mchk t = 0
  case neg =>
    have hv := Lib.hid (show shareR t p o = (0, 5) by unfold shareR; rw [if_neg h0])
    generalize mchk t = z at *
    have t1 : (z != 0) = true := by simpa using h0
    have CA := Lib.hid ca
    clear ca h0
    go_enter Try.func17, Try.ntmps17
    go_wp2_with (go_at_call 11; refine (CA.out _).mono ?_; rintro e wk ⟨rfl, hk⟩; replace K := kp_trans K hk; clear hk)
    go_ret2
    exact ⟨by rw [hv.out]; rfl, K⟩
  have b0 := mchk_zero h0
  rw [h0] at ca
  have CA := Lib.hid ca
  clear ca
  by_cases h1 : o < 1
  · have hv := Lib.hid (show shareR t p o = (0, 2) by unfold shareR; rw [if_pos h0, if_pos h1])
    clear h0
    go_enter Try.func17, Try.ntmps17
    go_wp2_with (go_at_call 11; refine (CA.out _).mono ?_; rintro e wk ⟨rfl, hk⟩; replace K := kp_trans K hk; clear hk)
    go_ret2
    exact ⟨by rw [hv.out]; rfl, K⟩
  by_cases h2 : 1099511627775 < o
  · have hv := Lib.hid (show shareR t p o = (0, 2) by unfold shareR; rw [if_pos h0, if_neg h1, if_pos h2])
    clear h0
    go_enter Try.func17, Try.ntmps17
    go_wp2_with (go_at_call 11; refine (CA.out _).mono ?_; rintro e wk ⟨rfl, hk⟩; replace K := kp_trans K hk; clear hk)
    go_ret2
    exact ⟨by rw [hv.out]; rfl, K⟩
  by_cases h3 : p < 0
  · have hv := Lib.hid (show shareR t p o = (0, 2) by unfold shareR; rw [if_pos h0, if_neg h1, if_neg h2, if_pos h3])
    clear h0
    go_enter Try.func17, Try.ntmps17
    go_wp2_with (go_at_call 11; refine (CA.out _).mono ?_; rintro e wk ⟨rfl, hk⟩; replace K := kp_trans K hk; clear hk)
    go_ret2
    exact ⟨by rw [hv.out]; rfl, K⟩
  by_cases h4 : o < p
  · have hv := Lib.hid (show shareR t p o = (0, 2) by unfold shareR; rw [if_pos h0, if_neg h1, if_neg h2, if_neg h3, if_pos h4])
    clear h0
    go_enter Try.func17, Try.ntmps17
    go_wp2_with (go_at_call 11; refine (CA.out _).mono ?_; rintro e wk ⟨rfl, hk⟩; replace K := kp_trans K hk; clear hk)
    go_ret2
    exact ⟨by rw [hv.out]; rfl, K⟩
  have hv : shareR t p o = evR t p o := by unfold shareR; rw [if_pos h0, if_neg h1, if_neg h2, if_neg h3, if_neg h4]
  have ce := even_any t p o (by unfold I64; omega) (by unfold I64; omega) (by unfold I64; omega)
  rw [hv]
  generalize (evR t p o).1 = x at *
  generalize (evR t p o).2 = y at *
  have CE := Lib.hid ce
  clear ce hv h0
  go_enter Try.func17, Try.ntmps17
  go_wp2_with (first
    | (go_at_call 11; refine (CA.out _).mono ?_; rintro e wk ⟨rfl, hk⟩; replace K := kp_trans K hk; clear hk)
    | (go_at_call 29; refine (CE.out _).mono ?_; rintro e wk ⟨rfl, hk⟩; replace K := kp_trans K hk; clear hk))
  go_ret2
  exact ⟨rfl, K⟩
set_option maxHeartbeats 2000000 in
theorem rshare_any (t p o : Int) (w : World) : Calls Try.prog 18 #[.int .i64 t, .int .i64 p, .int .i64 o] w fun e w' => e = .returned (.tuple #[.int .i64 (shareR t p o).1, .int .i64 (shareR t p o).2]) ∧ Kp w w' := by
  have K : Kp w w := kp_refl _
  have ca := fun w => rmcheck_any t w
  by_cases h0 : mchk t = 0
  case neg =>
    have hv := Lib.hid (show shareR t p o = (0, 5) by unfold shareR; rw [if_neg h0])
    generalize mchk t = z at *
    have t1 : (z != 0) = true := by simpa using h0
    have CA := Lib.hid ca
    clear ca h0
    go_enter Try.func18, Try.ntmps18
    go_wp2_with (go_at_call 12; refine (CA.out _).mono ?_; rintro e wk ⟨rfl, hk⟩; replace K := kp_trans K hk; clear hk)
    go_ret2
    exact ⟨by rw [hv.out]; rfl, K⟩
  have b0 := mchk_zero h0
  rw [h0] at ca
  have CA := Lib.hid ca
  clear ca
  by_cases h1 : o < 1
  · have hv := Lib.hid (show shareR t p o = (0, 2) by unfold shareR; rw [if_pos h0, if_pos h1])
    clear h0
    go_enter Try.func18, Try.ntmps18
    go_wp2_with (go_at_call 12; refine (CA.out _).mono ?_; rintro e wk ⟨rfl, hk⟩; replace K := kp_trans K hk; clear hk)
    go_ret2
    exact ⟨by rw [hv.out]; rfl, K⟩
  by_cases h2 : 1099511627775 < o
  · have hv := Lib.hid (show shareR t p o = (0, 2) by unfold shareR; rw [if_pos h0, if_neg h1, if_pos h2])
    clear h0
    go_enter Try.func18, Try.ntmps18
    go_wp2_with (go_at_call 12; refine (CA.out _).mono ?_; rintro e wk ⟨rfl, hk⟩; replace K := kp_trans K hk; clear hk)
    go_ret2
    exact ⟨by rw [hv.out]; rfl, K⟩
  by_cases h3 : p < 0
  · have hv := Lib.hid (show shareR t p o = (0, 2) by unfold shareR; rw [if_pos h0, if_neg h1, if_neg h2, if_pos h3])
    clear h0
    go_enter Try.func18, Try.ntmps18
    go_wp2_with (go_at_call 12; refine (CA.out _).mono ?_; rintro e wk ⟨rfl, hk⟩; replace K := kp_trans K hk; clear hk)
    go_ret2
    exact ⟨by rw [hv.out]; rfl, K⟩
  by_cases h4 : o < p
  · have hv := Lib.hid (show shareR t p o = (0, 2) by unfold shareR; rw [if_pos h0, if_neg h1, if_neg h2, if_neg h3, if_pos h4])
    clear h0
    go_enter Try.func18, Try.ntmps18
    go_wp2_with (go_at_call 12; refine (CA.out _).mono ?_; rintro e wk ⟨rfl, hk⟩; replace K := kp_trans K hk; clear hk)
    go_ret2
    exact ⟨by rw [hv.out]; rfl, K⟩
  have hv : shareR t p o = evR t p o := by unfold shareR; rw [if_pos h0, if_neg h1, if_neg h2, if_neg h3, if_neg h4]
  have ce := reven_core t p o (by unfold I64; omega) (by unfold I64; omega) (by unfold I64; omega) (by omega)
  rw [hv]
  generalize (evR t p o).1 = x at *
  generalize (evR t p o).2 = y at *
  have CE := Lib.hid ce
  clear ce hv h0
  go_enter Try.func18, Try.ntmps18
  go_wp2_with (first
    | (go_at_call 12; refine (CA.out _).mono ?_; rintro e wk ⟨rfl, hk⟩; replace K := kp_trans K hk; clear hk)
    | (go_at_call 30; refine (CE.out _).mono ?_; rintro e wk ⟨rfl, hk⟩; replace K := kp_trans K hk; clear hk))
  go_ret2
  exact ⟨rfl, K⟩
end Go.Proofs.Ytcmijedhjebpkaa
