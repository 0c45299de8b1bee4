/- The walk of RingNormals. -/
import Derived.Test.YtcpbemoiodbliaaRG16
import Derived.Test.YtcpbemoiodbliaaMP
import Derived.Test.YtcpbemoiodbliaaA
namespace Go.Proofs.Ytcpbemoiodbliaa
open Go.RowKit Go.Proofs.Geo
set_option linter.unusedVariables false
set_option maxHeartbeats 8000000 in
set_option maxRecDepth 100000 in
theorem ringNormals_walk (w : World) (a0 : Option Addr) (len0 cap0 : Nat) (hA0 : ∃ l : List Pt, len0 = l.length ∧ RdC w (.slice a0 len0 cap0) l) (hC0 : len0 ≤ cap0) (a1 : Option Addr) (len1 cap1 : Nat) (hA1 : ∃ l : List Pt, len1 = l.length ∧ RdC w (.slice a1 len1 cap1) l) (hC1 : len1 ≤ cap1) : Calls Try.prog 9 #[.slice a0 len0 cap0, .slice a1 len1 cap1] w fun e w' => e = .returned (.bool true) ∧ Kp w w' := by
  obtain ⟨a, e0, R0⟩ := hA0
  obtain ⟨b, e1, R1⟩ := hA1
  have RA : Hid (RdL w (.slice a0 len0 cap0) a) := Lib.hid ⟨R0, a0, cap0, by rw [← e0], by omega⟩
  have RB : Hid (RdL w (.slice a1 len1 cap1) b) := Lib.hid ⟨R1, a1, cap1, by rw [← e1], by omega⟩
  have HE0 := Lib.hid e0; have HE1 := Lib.hid e1
  have K : Kp w w := kp_refl _
  clear R0 R1 e0 e1 hC0 hC1
  by_cases b0 : 210 < len0
  · have t0 : decide (210 < len0) = true := decide_eq_true b0
    go_enter Try.func9, Try.ntmps9
    go_wp2_with (first
      | (go_at_call 14; refine (awake_any _).mono ?_; rintro e w1 ⟨rfl, hk⟩; replace K := kp_trans K hk; clear hk)
      | (go_at_call 19; refine (big_any _ _ _ _).mono ?_; rintro e w1 ⟨rfl, hk⟩; rw [t0]; replace K := kp_trans K hk; clear hk))
    go_ret
    exact ⟨rfl, K⟩
  by_cases b1 : 210 < len1
  · have t0 : decide (210 < len0) = false := decide_eq_false b0
    have t1 : decide (210 < len1) = true := decide_eq_true b1
    go_enter Try.func9, Try.ntmps9
    go_wp2_with (first
      | (go_at_call 14; refine (awake_any _).mono ?_; rintro e w1 ⟨rfl, hk⟩; replace K := kp_trans K hk; clear hk)
      | (go_at_call 19; refine (big_any _ _ _ _).mono ?_; rintro e w1 ⟨rfl, hk⟩; (first | rw [t0] | rw [t1]); replace K := kp_trans K hk; clear hk))
    go_ret
    exact ⟨rfl, K⟩
  have t0 : decide (210 < len0) = false := decide_eq_false b0
  have t1 : decide (210 < len1) = false := decide_eq_false b1
  have B0 := Lib.hid (show a.length ≤ 10000000000000 by rw [← HE0.out]; omega)
  have B1 := Lib.hid (show b.length ≤ 10000000000000 by rw [← HE1.out]; omega)
  have g0 : a.length ≤ 10000 := by rw [← HE0.out]; omega
  have g1 : b.length ≤ 10000 := by rw [← HE1.out]; omega
  have c1 := fun va vb w h g => sameR_any va vb a b w h g g0 g1
  have c2 := fun va vb w h g => sameR_any va vb b a w h g g1 g0
  have cd := fun va vb w h g => same2_any va vb (normR a) (normR b) w h g (Nat.le_trans (norm_le _) (Nat.le_trans g0 (by decide)))
  have na := fun va w h => normal_any va a w h g0
  have nb := fun va w h => normal_any va b w h g1
  unfold NormEnd at na nb
  have hs2 : sameR b a = sameR a b := by
    unfold sameR
    rw [Bool.and_comm (decide (signR b ≠ 0)), show decide (normR b = normR a) = decide (normR a = normR b) from decide_eq_decide.2 eq_comm]
  rw [hs2] at c2
  have hs : sameR a b = (decide (signR a ≠ 0) && decide (signR b ≠ 0) && decide (normR a = normR b)) := rfl
  rw [hs] at c1 c2
  obtain ⟨p, hp⟩ : ∃ p, decide (signR a ≠ 0) = p := ⟨_, rfl⟩
  obtain ⟨q, hq⟩ : ∃ p, decide (signR b ≠ 0) = p := ⟨_, rfl⟩
  obtain ⟨d, hd⟩ : ∃ p, decide (normR a = normR b) = p := ⟨_, rfl⟩
  rw [hp, hq, hd] at c1 c2
  rw [hp] at na
  rw [hq] at nb
  rw [hd] at cd
  have NA := Lib.hid na; have NB := Lib.hid nb
  have CD := Lib.hid cd
  clear na nb hp hq hd cd hs hs2 g0 g1
  cases p
  · have C1 := Lib.hid c1; have C2 := Lib.hid c2
    simp only [Bool.false_and] at C1 C2
    clear c1 c2
    go_enter Try.func9, Try.ntmps9
    go_upto_region 4 with (first
      | (go_at_call 14; refine (awake_any _).mono ?_; rintro e w1 ⟨rfl, hk⟩; replace K := kp_trans K hk; clear hk)
      | (go_at_call 19; refine (big_any _ _ _ _).mono ?_; rintro e w1 ⟨rfl, hk⟩; (first | rw [t0] | rw [t1]); replace K := kp_trans K hk; clear hk))
    replace RA := Lib.hid (RA.out.kp K)
    replace RB := Lib.hid (RB.out.kp K)
    go_wp2_with (first
      | (go_at_call 22; have M2 := M1; refine (NB.out _ _ RB.out).mono ?_; rintro e w3 ⟨v3, rfl, ho, hk⟩; replace RX := Lib.hid (RX.out.kp hk); have RY := Lib.hid (ho.rdc (Nat.le_trans (norm_le _) B1.out)); have N2 := trivial; clear ho; replace RA := Lib.hid (RA.out.kp hk); replace RB := Lib.hid (RB.out.kp hk); replace K := kp_trans K hk; clear hk)
      | (go_at_call 22; refine (NA.out _ _ RA.out).mono ?_; rintro e w2 ⟨v2, rfl, ho, hk⟩; have RX := Lib.hid (ho.rdc (Nat.le_trans (norm_le _) B0.out)); have M1 := trivial; clear ho; replace RA := Lib.hid (RA.out.kp hk); replace RB := Lib.hid (RB.out.kp hk); replace K := kp_trans K hk; clear hk)
      | (go_at_call 29; have M5 := M4; refine (C2.out _ _ _ RB.out RA.out).mono ?_; rintro e w4 ⟨rfl, hk⟩; replace RA := Lib.hid (RA.out.kp hk); replace RB := Lib.hid (RB.out.kp hk); replace K := kp_trans K hk; clear hk)
      | (go_at_call 29; have M4 := M3; refine (C1.out _ _ _ RA.out RB.out).mono ?_; rintro e w4 ⟨rfl, hk⟩; replace RA := Lib.hid (RA.out.kp hk); replace RB := Lib.hid (RB.out.kp hk); replace K := kp_trans K hk; clear hk)
      | (go_at_call 29; refine (C1.out _ _ _ RA.out RB.out).mono ?_; rintro e w4 ⟨rfl, hk⟩; have M3 := trivial; replace RX := Lib.hid (RX.out.kp hk); replace RY := Lib.hid (RY.out.kp hk); replace RA := Lib.hid (RA.out.kp hk); replace RB := Lib.hid (RB.out.kp hk); replace K := kp_trans K hk; clear hk)
      | (go_at_call 25; refine (CD.out _ _ _ RX.out RY.out).mono ?_; rintro e w4 ⟨rfl, hk⟩; replace RA := Lib.hid (RA.out.kp hk); replace RB := Lib.hid (RB.out.kp hk); replace K := kp_trans K hk; clear hk))
    go_ret
    exact ⟨by simp, K⟩
  cases q
  · have C1 := Lib.hid c1; have C2 := Lib.hid c2
    simp only [Bool.and_false, Bool.false_and] at C1 C2
    clear c1 c2
    go_enter Try.func9, Try.ntmps9
    go_upto_region 4 with (first
      | (go_at_call 14; refine (awake_any _).mono ?_; rintro e w1 ⟨rfl, hk⟩; replace K := kp_trans K hk; clear hk)
      | (go_at_call 19; refine (big_any _ _ _ _).mono ?_; rintro e w1 ⟨rfl, hk⟩; (first | rw [t0] | rw [t1]); replace K := kp_trans K hk; clear hk))
    replace RA := Lib.hid (RA.out.kp K)
    replace RB := Lib.hid (RB.out.kp K)
    go_wp2_with (first
      | (go_at_call 22; have M2 := M1; refine (NB.out _ _ RB.out).mono ?_; rintro e w3 ⟨v3, rfl, ho, hk⟩; replace RX := Lib.hid (RX.out.kp hk); have RY := Lib.hid (ho.rdc (Nat.le_trans (norm_le _) B1.out)); have N2 := trivial; clear ho; replace RA := Lib.hid (RA.out.kp hk); replace RB := Lib.hid (RB.out.kp hk); replace K := kp_trans K hk; clear hk)
      | (go_at_call 22; refine (NA.out _ _ RA.out).mono ?_; rintro e w2 ⟨v2, rfl, ho, hk⟩; have RX := Lib.hid (ho.rdc (Nat.le_trans (norm_le _) B0.out)); have M1 := trivial; clear ho; replace RA := Lib.hid (RA.out.kp hk); replace RB := Lib.hid (RB.out.kp hk); replace K := kp_trans K hk; clear hk)
      | (go_at_call 29; have M5 := M4; refine (C2.out _ _ _ RB.out RA.out).mono ?_; rintro e w4 ⟨rfl, hk⟩; replace RA := Lib.hid (RA.out.kp hk); replace RB := Lib.hid (RB.out.kp hk); replace K := kp_trans K hk; clear hk)
      | (go_at_call 29; have M4 := M3; refine (C1.out _ _ _ RA.out RB.out).mono ?_; rintro e w4 ⟨rfl, hk⟩; replace RA := Lib.hid (RA.out.kp hk); replace RB := Lib.hid (RB.out.kp hk); replace K := kp_trans K hk; clear hk)
      | (go_at_call 29; refine (C1.out _ _ _ RA.out RB.out).mono ?_; rintro e w4 ⟨rfl, hk⟩; have M3 := trivial; replace RX := Lib.hid (RX.out.kp hk); replace RY := Lib.hid (RY.out.kp hk); replace RA := Lib.hid (RA.out.kp hk); replace RB := Lib.hid (RB.out.kp hk); replace K := kp_trans K hk; clear hk)
      | (go_at_call 25; refine (CD.out _ _ _ RX.out RY.out).mono ?_; rintro e w4 ⟨rfl, hk⟩; replace RA := Lib.hid (RA.out.kp hk); replace RB := Lib.hid (RB.out.kp hk); replace K := kp_trans K hk; clear hk))
    go_ret
    exact ⟨by simp, K⟩
  · have C1 := Lib.hid c1; have C2 := Lib.hid c2
    simp only [Bool.true_and] at C1 C2
    clear c1 c2
    have tdd : (d == d) = true := by simp
    go_enter Try.func9, Try.ntmps9
    go_upto_region 4 with (first
      | (go_at_call 14; refine (awake_any _).mono ?_; rintro e w1 ⟨rfl, hk⟩; replace K := kp_trans K hk; clear hk)
      | (go_at_call 19; refine (big_any _ _ _ _).mono ?_; rintro e w1 ⟨rfl, hk⟩; (first | rw [t0] | rw [t1]); replace K := kp_trans K hk; clear hk))
    replace RA := Lib.hid (RA.out.kp K)
    replace RB := Lib.hid (RB.out.kp K)
    go_wp2_with (first
      | (go_at_call 22; have M2 := M1; refine (NB.out _ _ RB.out).mono ?_; rintro e w3 ⟨v3, rfl, ho, hk⟩; replace RX := Lib.hid (RX.out.kp hk); have RY := Lib.hid (ho.rdc (Nat.le_trans (norm_le _) B1.out)); have N2 := trivial; clear ho; replace RA := Lib.hid (RA.out.kp hk); replace RB := Lib.hid (RB.out.kp hk); replace K := kp_trans K hk; clear hk)
      | (go_at_call 22; refine (NA.out _ _ RA.out).mono ?_; rintro e w2 ⟨v2, rfl, ho, hk⟩; have RX := Lib.hid (ho.rdc (Nat.le_trans (norm_le _) B0.out)); have M1 := trivial; clear ho; replace RA := Lib.hid (RA.out.kp hk); replace RB := Lib.hid (RB.out.kp hk); replace K := kp_trans K hk; clear hk)
      | (go_at_call 29; have M5 := M4; refine (C2.out _ _ _ RB.out RA.out).mono ?_; rintro e w4 ⟨rfl, hk⟩; replace RA := Lib.hid (RA.out.kp hk); replace RB := Lib.hid (RB.out.kp hk); replace K := kp_trans K hk; clear hk)
      | (go_at_call 29; have M4 := M3; refine (C1.out _ _ _ RA.out RB.out).mono ?_; rintro e w4 ⟨rfl, hk⟩; replace RA := Lib.hid (RA.out.kp hk); replace RB := Lib.hid (RB.out.kp hk); replace K := kp_trans K hk; clear hk)
      | (go_at_call 29; refine (C1.out _ _ _ RA.out RB.out).mono ?_; rintro e w4 ⟨rfl, hk⟩; have M3 := trivial; replace RX := Lib.hid (RX.out.kp hk); replace RY := Lib.hid (RY.out.kp hk); replace RA := Lib.hid (RA.out.kp hk); replace RB := Lib.hid (RB.out.kp hk); replace K := kp_trans K hk; clear hk)
      | (go_at_call 25; refine (CD.out _ _ _ RX.out RY.out).mono ?_; rintro e w4 ⟨rfl, hk⟩; replace RA := Lib.hid (RA.out.kp hk); replace RB := Lib.hid (RB.out.kp hk); replace K := kp_trans K hk; clear hk))
    go_ret
    exact ⟨by simp, K⟩
end Go.Proofs.Ytcpbemoiodbliaa
