/- The walk of InsideKnown. -/
import Derived.Test.YtmbfcneabpgcpaaI6
namespace Go.Proofs.Ytmbfcneabpgcpaa
open Go.RowKit Go.Proofs.Geo
def knownL : List Pt := [(2, 0), (2, 2), (4, 2), (4, 0)]
theorem eval_n0 : inB (0, 0) squareL = true := by decide
theorem eval_n1 : inB (2, 0) squareL = true := by decide
theorem eval_n2 : inB (4, 4) squareL = false := by decide
theorem eval_n3 : inB (5, 1) squareL = false := by decide
theorem eval_n4 : cnt (0, 0) (2, 1) (2, -1) = true := by decide
theorem eval_n5 : cnt (0, 0) (0, -1) (0, 1) = false := by decide
theorem eval_n6 : cnt (0, 1) (2, -1) (2, 1) = false := by decide
theorem eval_n7 : crossN (0, 1) knownL = 2 := by decide
theorem eval_n8 : inB (0, 1) knownL = false := by decide
theorem eval_n9 : inB (0, 0) [] = false := by decide
set_option maxHeartbeats 8000000 in
set_option maxRecDepth 100000 in
theorem insideKnown_walk (w : World) : Calls Try.prog 6 #[] w fun e w' => e = .returned (.bool true) ∧ Kp w w' := by
  have n0 := eval_n0
  have n1 := eval_n1
  have n2 := eval_n2
  have n3 := eval_n3
  have n4 := eval_n4
  have n5 := eval_n5
  have n6 := eval_n6
  have n7 := eval_n7
  have n8 := eval_n8
  have n9 := eval_n9
  have K : Hid (Kp w w) := Lib.hid (kp_refl w)
  go_enter Try.func6, Try.ntmps6
  go_wp2_with (first
    | (go_at_call 16; refine (at10_any _ _ _).mono ?_; rintro e w' ⟨rfl, hk⟩; replace K := Lib.hid (kp_trans (by repeat (first | exact K.out | apply kp_alloc)) hk); (try replace HL := Lib.hid (HL.out.kp hk)); clear hk)
    | (go_at_call 23; refine (square_any _).mono ?_; rintro e w' ⟨v, rfl, hr, hk⟩; have HR := Lib.hid hr; clear hr; replace K := Lib.hid (kp_trans (by repeat (first | exact K.out | apply kp_alloc)) hk); (try replace HL := Lib.hid (HL.out.kp hk)); clear hk)
    | (go_at_call_of 13 (Value.slice none 0 0); refine (in_rd _ _ (.slice none 0 0) [] _ ⟨by simp, .inl ⟨rfl, rfl⟩⟩).mono ?_; rintro e w' ⟨rfl, hk⟩; replace K := Lib.hid (kp_trans (by repeat (first | exact K.out | apply kp_alloc)) hk); (try replace HL := Lib.hid (HL.out.kp hk)); clear hk)
    | (go_at_call 13; (first | (refine (in_rd _ _ _ squareL _ HR.out).mono ?_; clear HR) | (refine (in_rd _ _ _ knownL _ HL.out).mono ?_)); rintro e w' ⟨rfl, hk⟩; replace K := Lib.hid (kp_trans (by repeat (first | exact K.out | apply kp_alloc)) hk); (try replace HL := Lib.hid (HL.out.kp hk)); clear hk)
    | (go_at_call 19; refine (crossings_rd _ _ _ knownL _ HL.out).mono ?_; rintro e w' ⟨rfl, hk⟩; replace K := Lib.hid (kp_trans (by repeat (first | exact K.out | apply kp_alloc)) hk); (try replace HL := Lib.hid (HL.out.kp hk)); clear hk)
    | (go_at_call 17; refine (counts_any _ _ _ _ _ _ _).mono ?_; rintro e w' ⟨rfl, hk⟩; replace K := Lib.hid (kp_trans (by repeat (first | exact K.out | apply kp_alloc)) hk); (try replace HL := Lib.hid (HL.out.kp hk)); clear hk)
    | (go_at_call 10; refine (awake10_any _).mono ?_; rintro e w2 ⟨rfl, hk⟩; have HL : Hid (Rd w2 (.slice (some ⟨w'.heap.size, 0, none⟩) 4 4) knownL) := Lib.hid ((rd_of (l := knownL) (by simp [knownL]) (by unfold knownL; (repeat (first | exact ptsAt_nil _ _ _ | (refine PtsAt.cons (by simp [go_sem]) (by simp [go_sem]) ?_))))).kp hk); replace K := Lib.hid (kp_trans (kp_alloc K.out _) hk); clear hk))
  go_ret
  exact ⟨rfl, K.out⟩
end Go.Proofs.Ytmbfcneabpgcpaa
