/- The walk of RingSames. -/
import Derived.Test.YtcpbemoiodbliaaRG16
import Derived.Test.YtcpbemoiodbliaaMP
import Derived.Test.YtcpbemoiodbliaaA
namespace Go.Proofs.Ytcpbemoiodbliaa
open Go.RowKit Go.Proofs.Geo
set_option linter.unusedVariables false
set_option maxHeartbeats 8000000 in
set_option maxRecDepth 100000 in
theorem ringSames_walk (w : World) (a0 : Option Addr) (len0 cap0 : Nat) (hA0 : ∃ l : List Pt, len0 = l.length ∧ RdC w (.slice a0 len0 cap0) l) (a1 : Option Addr) (len1 cap1 : Nat) (hA1 : ∃ l : List Pt, len1 = l.length ∧ RdC w (.slice a1 len1 cap1) l) : Calls Try.prog 7 #[.slice a0 len0 cap0, .slice a1 len1 cap1] w fun e w' => e = .returned (.bool true) ∧ Kp w w' := by
  obtain ⟨a, e0, R0⟩ := hA0
  obtain ⟨b, e1, R1⟩ := hA1
  have RA := Lib.hid R0; have RB := Lib.hid R1; have HE0 := Lib.hid e0; have HE1 := Lib.hid e1
  have K : Kp w w := kp_refl _
  clear R0 R1 e0 e1
  by_cases b0 : 210 < len0
  · have t0 : decide (210 < len0) = true := decide_eq_true b0
    go_enter Try.func7, Try.ntmps7
    go_wp2_with (go_at_call 19; refine (big_any _ _ _ _).mono ?_; rintro e w1 ⟨rfl, hk⟩; rw [t0]; replace K := kp_trans K hk; clear hk)
    go_ret
    exact ⟨rfl, K⟩
  by_cases b1 : 210 < len1
  · have t0 : decide (210 < len0) = false := decide_eq_false b0
    have t1 : decide (210 < len1) = true := decide_eq_true b1
    go_enter Try.func7, Try.ntmps7
    go_wp2_with (go_at_call 19; refine (big_any _ _ _ _).mono ?_; rintro e w1 ⟨rfl, hk⟩; (first | rw [t0] | rw [t1]); replace K := kp_trans K hk; clear hk)
    go_ret
    exact ⟨rfl, K⟩
  · have t0 : decide (210 < len0) = false := decide_eq_false b0
    have t1 : decide (210 < len1) = false := decide_eq_false b1
    have HG0 := Lib.hid (show a.length ≤ 210 by rw [← HE0.out]; omega)
    have HG1 := Lib.hid (show b.length ≤ 210 by rw [← HE1.out]; omega)
    obtain ⟨s, hs⟩ : ∃ s, sameR a b = s := ⟨_, rfl⟩
    have c1 := fun va vb w h g => sameR_any va vb a b w h g (by have := HG0.out; omega) (by have := HG1.out; omega)
    have c2 := fun va vb w h g => same9R_any va vb a b w h g (by have := HG0.out; omega) (by have := HG1.out; omega)
    rw [hs] at c1
    rw [same9R_eq, hs] at c2
    have C1 := Lib.hid c1; have C2 := Lib.hid c2
    clear c1 c2 hs
    go_enter Try.func7, Try.ntmps7
    go_upto_region 3 with (go_at_call 19; refine (big_any _ _ _ _).mono ?_; rintro e w1 ⟨rfl, hk⟩; (first | rw [t0] | rw [t1]); replace K := kp_trans K hk; clear hk)
    go_upto_region 4 with (first
      | (at_builtin; refine wpList_append_pts rfl (.tmp 16) (.tmp 17) rfl _ _ _ [] b rfl rfl (OwnP.none_lit _) (RB.out.kp (kp_alloc K _)) (by have := HG1.out; simp; omega) (by simp) ?_; intro v1 w1 ho hg; have HX1 := Lib.hid (show OwnP w1 _ v1 b from ho); have hk := kp_of_grown (kp_alloc (kp_refl _) _) hg (OwnP.none_lit _); clear ho hg; replace HX0 := Lib.hid (HX0.out.kp hk); replace K := kp_trans K hk; clear hk)
      | (at_builtin; refine wpList_append_pts rfl (.tmp 13) (.tmp 14) rfl _ _ _ [] a rfl rfl (OwnP.none_lit _) (RA.out.kp (kp_alloc K _)) (by have := HG0.out; simp; omega) (by simp) ?_; intro v0 w0 ho hg; have HX0 := Lib.hid (show OwnP w0 _ v0 a from ho); have hk := kp_of_grown (kp_alloc (kp_refl _) _) hg (OwnP.none_lit _); clear ho hg; replace K := kp_trans K hk; clear hk))
    have RX := Lib.hid (HX0.out.rdl (by have := HG0.out; omega))
    have RY := Lib.hid (HX1.out.rdl (by have := HG1.out; omega))
    replace RA := Lib.hid (RA.out.kp K)
    replace RB := Lib.hid (RB.out.kp K)
    have tss : (s == s) = true := by simp
    have B0 := Lib.hid (show a.length ≤ 10000000000 by have := HG0.out; omega)
    have B1 := Lib.hid (show b.length ≤ 10000000000 by have := HG1.out; omega)
    go_wp2_with (first
      | (go_at_call 29; refine (C1.out _ _ _ RX.out RY.out).mono ?_; rintro e w5 ⟨rfl, hk⟩; replace RX := Lib.hid (RX.out.kp hk); replace RY := Lib.hid (RY.out.kp hk); replace RA := Lib.hid (RA.out.kp hk); replace RB := Lib.hid (RB.out.kp hk); replace K := kp_trans K hk; clear hk)
      | (go_at_call 30; refine (C2.out _ _ _ RA.out RB.out).mono ?_; rintro e w5 ⟨rfl, hk⟩; replace RX := Lib.hid (RX.out.kp hk); replace RY := Lib.hid (RY.out.kp hk); replace RA := Lib.hid (RA.out.kp hk); replace RB := Lib.hid (RB.out.kp hk); replace K := kp_trans K hk; clear hk)
      | (go_at_call 25; have M2 := M1; refine (same2_self _ _ b _ RY.out.1 RB.out B1.out).mono ?_; rintro e w5 ⟨rfl, hk⟩; replace RX := Lib.hid (RX.out.kp hk); replace RY := Lib.hid (RY.out.kp hk); replace RA := Lib.hid (RA.out.kp hk); replace RB := Lib.hid (RB.out.kp hk); replace K := kp_trans K hk; clear hk)
      | (go_at_call 25; refine (same2_self _ _ a _ RX.out.1 RA.out B0.out).mono ?_; rintro e w5 ⟨rfl, hk⟩; have M1 := trivial; replace RX := Lib.hid (RX.out.kp hk); replace RY := Lib.hid (RY.out.kp hk); replace RA := Lib.hid (RA.out.kp hk); replace RB := Lib.hid (RB.out.kp hk); replace K := kp_trans K hk; clear hk)
      | (go_at_call 14; refine (awake_any _).mono ?_; rintro e w5 ⟨rfl, hk⟩; replace RX := Lib.hid (RX.out.kp hk); replace RY := Lib.hid (RY.out.kp hk); replace RA := Lib.hid (RA.out.kp hk); replace RB := Lib.hid (RB.out.kp hk); replace K := kp_trans K hk; clear hk))
    go_ret
    exact ⟨by simp, K⟩
end Go.Proofs.Ytcpbemoiodbliaa
