/- The walk of CrossKnown. -/
import Derived.Test.YtcelipgokpnmfaaC7
namespace Go.Proofs.Ytcelipgokpnmfaa
open Go.RowKit Go.Proofs.Geo

theorem eval_k1 : meets (0, 0) (3, 3) (0, 3) (4, 0) = 2 := by decide
theorem eval_k2 : meets (0, 0) (4, 0) (4, 0) (9, 0) = 1 := by decide
theorem eval_k3 : meets (0, 0) (0, 0) (0, 0) (4, 0) = 0 := by decide
theorem eval_e1 : ends (0, 0) (4, 0) (2, 0) (2, 5) = [(2, 0)] := by decide
theorem eval_e2 : ends (0, 0) (4, 0) (3, 0) (9, 0) = [(4, 0), (3, 0)] := by decide

set_option maxHeartbeats 8000000 in
set_option maxRecDepth 100000 in
theorem crossKnown_walk (w : World) : Calls Try.prog 6 #[] w fun e w' => e = .returned (.bool true) ∧ Kp w w' := by
  have h1 := eval_k1
  have h2 := eval_k2
  have h3 := eval_k3
  have K : Hid (Kp w w) := Lib.hid (kp_refl w)
  go_enter Try.func6, Try.ntmps6
  go_wp2_with (first
    | (go_at_call 17; refine (at08_any _ _ _).mono ?_; rintro e w' ⟨rfl, hk⟩; replace K := Lib.hid (kp_trans K.out hk); (try replace HO := Lib.hid (HO.out.kp hk)); clear hk)
    | (go_at_call 9; refine (meets_any _ _ _ _ _ _ _ _ _).mono ?_; rintro e w' ⟨rfl, hk⟩; replace K := Lib.hid (kp_trans K.out hk); clear hk)
    | (go_at_call 12; refine (ends_any _ _ _ _ _ _ _ _ _).mono ?_; rintro e w' ⟨v, rfl, ho, hk⟩; (first | rw [eval_e1] at ho | rw [eval_e2] at ho); have HO := Lib.hid (ho.rd (by simp)); replace K := Lib.hid (kp_trans K.out hk); clear hk ho)
    | (go_at_call 11; refine (same_rd _ _ _ _ ?_ (HO.out.kp (kp_alloc (kp_refl _) _)) ?_).mono ?_; (focus simp); (focus exact ⟨by simp, .inr ⟨_, _, _, rfl, by first | exact ptsAt_one _ _ _ _ _ rfl | exact ptsAt_two _ _ _ _ _ _ _ rfl⟩⟩); rintro e w' ⟨rfl, hk⟩; replace K := Lib.hid (kp_trans (kp_alloc K.out _) hk); clear hk HO)
    | (go_at_call 14; refine (awake08_any _).mono ?_; rintro e w' ⟨rfl, hk⟩; replace K := Lib.hid (kp_trans K.out hk); clear hk))
  go_ret
  exact ⟨rfl, K.out⟩
end Go.Proofs.Ytcelipgokpnmfaa
