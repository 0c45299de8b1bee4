/- The walk of MoneyTaxes. -/
import Derived.Test.YtcmijedhjebpkaaLH
namespace Go.Proofs.Ytcmijedhjebpkaa
open Go.RowKit Go.Proofs.Geo Go.Proofs.Mon
set_option linter.unusedVariables false
set_option maxHeartbeats 8000000 in
set_option maxRecDepth 100000 in
theorem moneyTaxes_walk (a : Int) (r : Int) (p : Int) (o : Int) (w : World) : Calls Try.prog 5 #[.int .i64 a, .int .i64 r, .int .i64 p, .int .i64 o] w fun e w' => e = .returned (.bool true) ∧ Kp w w' := by
  have K : Kp w w := kp_refl _
  have c1 := fun w => mcheck_any a w
  have c2 := fun w => rmcheck_any a w
  have c3 := fun w => crate_any r w
  have c4 := fun w => rcrate_any r w
  have t1 := fun w => tax_any a r w
  have t2 := fun w => rtax_any a r w
  have s1 := fun w => share_any a p o w
  have s2 := fun w => rshare_any a p o w
  generalize mchk a = C at *
  generalize rchk r = R at *
  generalize (taxR a r).1 = T at *
  generalize (taxR a r).2 = TE at *
  generalize (shareR a p o).1 = S at *
  generalize (shareR a p o).2 = SE at *
  have n1 : (C == C) = true := by simp
  have n2 : (R == R) = true := by simp
  have n3 : (T == T) = true := by simp
  have n4 : (TE == TE) = true := by simp
  have n5 : (S == S) = true := by simp
  have n6 : (SE == SE) = true := by simp
  have C1 := Lib.hid c1; have C2 := Lib.hid c2; have C3 := Lib.hid c3; have C4 := Lib.hid c4; have T1 := Lib.hid t1; have T2 := Lib.hid t2; have S1 := Lib.hid s1; have S2 := Lib.hid s2; have AW := Lib.hid awake_any
  clear c1 c2 c3 c4 t1 t2 s1 s2
  go_enter Try.func5, Try.ntmps5
  go_wp2_with (first
    | (go_at_call 11; refine (C1.out _).mono ?_; rintro e wk ⟨rfl, hk⟩; replace K := kp_trans K hk; clear hk)
    | (go_at_call 12; refine (C2.out _).mono ?_; rintro e wk ⟨rfl, hk⟩; replace K := kp_trans K hk; clear hk)
    | (go_at_call 13; refine (C3.out _).mono ?_; rintro e wk ⟨rfl, hk⟩; replace K := kp_trans K hk; clear hk)
    | (go_at_call 14; refine (C4.out _).mono ?_; rintro e wk ⟨rfl, hk⟩; replace K := kp_trans K hk; clear hk)
    | (go_at_call 15; refine (T1.out _).mono ?_; rintro e wk ⟨rfl, hk⟩; replace K := kp_trans K hk; clear hk)
    | (go_at_call 16; refine (T2.out _).mono ?_; rintro e wk ⟨rfl, hk⟩; replace K := kp_trans K hk; clear hk)
    | (go_at_call 17; refine (S1.out _).mono ?_; rintro e wk ⟨rfl, hk⟩; replace K := kp_trans K hk; clear hk)
    | (go_at_call 18; refine (S2.out _).mono ?_; rintro e wk ⟨rfl, hk⟩; replace K := kp_trans K hk; clear hk)
    | (go_at_call 7; refine (AW.out _).mono ?_; rintro e wk ⟨rfl, hk⟩; replace K := kp_trans K hk; clear hk))
  go_ret
  exact ⟨rfl, K⟩
end Go.Proofs.Ytcmijedhjebpkaa
