/- The walk of WideNear. -/
import Derived.Test.YtcadaejpegdpeaaWA
import Derived.Test.YtcadaejpegdpeaaWNP
import Derived.Deep.DeepCutAuto
namespace Go.Proofs.Ytcadaejpegdpeaa
open Go.RowKit Go.Proofs.Geo
set_option linter.unusedVariables false

theorem near_t {a b c s y : Int} (hs : s = 1 ∨ s = -1) (hy : s * c = y) (h0 : 0 < y) (he : (evR a b c).2 = 0) : ∃ x, a * b - (evR a b c).1 * c = x ∧ 2 * x ≤ y ∧ -(2 * x) ≤ y ∧ (2 * x = y ∨ -(2 * x) = y → (evR a b c).1 % 2 = 0) := by
  obtain ⟨r, h1, h2, h3, h4⟩ := ev_val hs hy h0 he
  refine ⟨s * r, ?_, ?_⟩
  · unfold Bq at h1
    rcases hs with rfl | rfl
    · rw [Int.one_mul] at hy; subst hy; omega
    · have : c = -y := by omega
      subst this
      rw [Int.mul_neg]; omega
  · rcases hs with rfl | rfl
    · exact ⟨by omega, by omega, fun h => h4 (by omega)⟩
    · exact ⟨by omega, by omega, fun h => h4 (by omega)⟩
theorem prod_bd {a b : Int} (ha : -1099511627776 ≤ a ∧ a ≤ 1099511627776) (hb : -1048576 ≤ b ∧ b ≤ 1048576) : -1152921504606846976 ≤ a * b ∧ a * b ≤ 1152921504606846976 := by
  have h : (a * b).natAbs ≤ 1152921504606846976 := by
    rw [Int.natAbs_mul]
    have := Nat.mul_le_mul (show a.natAbs ≤ 1099511627776 by omega) (show b.natAbs ≤ 1048576 by omega)
    omega
  omega

set_option maxHeartbeats 8000000 in
set_option maxRecDepth 100000 in
theorem near_any (a : Int) (ha : I64 a) (b : Int) (hb : I64 b) (c : Int) (hc : I64 c) (s y : Int) (hs : s = 1 ∨ s = -1) (hy : s * c = y) (hy0 : 0 < y) (hm : (c == -9223372036854775808) = false) (w : World) : Calls Try.prog 5 #[.int .i64 a, .int .i64 b, .int .i64 c] w fun e w' => e = .returned (.bool true) ∧ Kp w w' := by
  have hcn : c ≠ 0 := by rintro rfl; simp at hy; omega
  have hcz : (c == 0) = false := by simp [hcn]
  have hmin : c ≠ -9223372036854775808 := by simpa using hm
  have hcw : IntKind.i64.wrap (-c) = -c := by unfold I64 at hc; exact IntWalk.i64_in _ (by omega)
  have hF := fl_i64 a b c
  have hQ := ev_i64 a b c
  have f1 := fun w => floor_any a b c ha hb hc w
  have f2 := fun w => even_any a b c ha hb hc w
  have d1 := fun w => wsign_any a b (flR a b c).1 c ha hb hF hc w
  have d2 := fun w (h : I64 ((flR a b c).1 + 1)) => wsign_any a b ((flR a b c).1 + 1) c ha hb h hc w
  have df := dif_fl (a := a) (b := b) hs hy hy0
  have nt := near_t (a := a) (b := b) hs hy hy0
  have ne : (flR a b c).2 = 0 → (evR a b c).2 = 0 → (evR a b c).1 = (flR a b c).1 ∨ (evR a b c).1 = (flR a b c).1 + 1 := fun h1 h2 => by
    obtain ⟨r, k1, k2, k3⟩ := fl_val hs hy hy0 h1
    obtain ⟨t, k4, k5, k6, _⟩ := ev_val hs hy hy0 h2
    exact near_fl hy0 k3 k1 k2 k4 k5 k6
  have eE := fl_err (a := a) (b := b) hcn
  have eG := ev_err (a := a) (b := b) hcn
  have b1 : -1 ≤ dif a b (flR a b c).1 c ∧ dif a b (flR a b c).1 c ≤ 1 := sign_bd _
  have b2 : -1 ≤ dif a b ((flR a b c).1 + 1) c ∧ dif a b ((flR a b c).1 + 1) c ≤ 1 := sign_bd _
  generalize dif a b (flR a b c).1 c = D1 at *
  generalize dif a b ((flR a b c).1 + 1) c = D2 at *
  generalize (flR a b c).1 = F at *
  generalize (flR a b c).2 = E at *
  generalize (evR a b c).1 = Q at *
  generalize (evR a b c).2 = G at *
  have F1 := Lib.hid f1; have F2 := Lib.hid f2; have D1H := Lib.hid d1; have D2H := Lib.hid d2; have DF := Lib.hid df; have NT := Lib.hid nt; have NE := Lib.hid ne
  have HF := Lib.hid hF; have HQ := Lib.hid hQ; have HA := Lib.hid ha; have HB := Lib.hid hb
  obtain ⟨u1, u2⟩ := b1
  obtain ⟨u3, u4⟩ := b2
  have HC := Lib.hid hc
  have HYE := Lib.hid hy
  have hmx : max c (-c) = y := by rcases hs with rfl | rfl <;> omega
  have HSG : Hid ((c < 0 ∧ s = -1) ∨ (¬ c < 0 ∧ s = 1)) := Lib.hid (by rcases hs with rfl | rfl <;> omega)
  have HS1 := Lib.hid hs
  clear f1 f2 d1 d2 df nt ne hF hQ ha hb hs hc hmin hcn hy
  go_enter Try.func5, Try.ntmps5
  go_wp2_with fail
  go_at_call 14; refine (awake01_any _).mono ?_; rintro e w1 ⟨rfl, kw1⟩
  go_upto_if 28 with fail
  go_cut [9] (fun v wx => v = .int .i64 s ∧ w1 = wx)
  case first =>
    rcases HSG.out with ⟨k, hs1⟩ | ⟨k, hs1⟩
    · have HX := Lib.hid hs1
      clear hs1
      go_wp2_with fail
      go_meet
      exact ⟨by rw [HX.out], rfl⟩
    · have HX := Lib.hid hs1
      clear hs1
      go_wp2_with fail
      go_meet
      exact ⟨by rw [HX.out], rfl⟩
  obtain ⟨rfl, rfl⟩ := hcut
  go_wp2_with fail
  go_at_call 17; refine (F1.out _).mono ?_; rintro e w2 ⟨rfl, kw2⟩
  rcases eE with rfl | rfl
  · obtain ⟨s1, s2⟩ := DF.out (by simp)
    obtain ⟨V1, e1⟩ : ∃ x, s * D1 = x := ⟨_, rfl⟩
    obtain ⟨V2, e2⟩ : ∃ x, s * D2 = x := ⟨_, rfl⟩
    have v1 : IntKind.i64.wrap (s * D1) = V1 := by rw [← e1]; rcases HS1.out with rfl | rfl <;> exact IntWalk.i64_in _ (by omega)
    have v2 : IntKind.i64.wrap (s * D2) = V2 := by rw [← e2]; rcases HS1.out with rfl | rfl <;> exact IntWalk.i64_in _ (by omega)
    have v3 : wrap64 (s * D1) = V1 := by rw [← IntWalk.i64_left]; exact v1
    have v4 : wrap64 (s * D2) = V2 := by rw [← IntWalk.i64_left]; exact v2
    rw [e1] at s1
    rw [e2] at s2
    clear e1 e2
    by_cases hfm : F = 9223372036854775807
    · have fm : decide (F < 9223372036854775807) = false := by subst hfm; decide
      have HFM := Lib.hid hfm
      clear hfm
      go_wp2_with fail
      go_at_call 12; refine (D1H.out _).mono ?_; rintro e w3 ⟨rfl, kw3⟩
      go_wp2_with fail
      go_at_call 15; refine (F2.out _).mono ?_; rintro e w4 ⟨rfl, kw4⟩
      rcases eG with rfl | rfl
      · skip
        obtain rfl : Q = F := (NE.out (by simp) (by simp)).elim id (fun k => absurd k (by have := HQ.out.2; have := HFM.out; omega))
        have qf : (Q != Q) = false := by simp
        by_cases hr : (-1099511627776 ≤ a ∧ a ≤ 1099511627776) ∧ (-1048576 ≤ b ∧ b ≤ 1048576) ∧ y ≤ 1099511627776
        · obtain ⟨⟨r1, r2⟩, ⟨r3, r4⟩, r5⟩ := hr
          have pb := prod_bd (a := a) (b := b) ⟨r1, r2⟩ ⟨r3, r4⟩
          obtain ⟨x, hx, x1, x2, x3⟩ := NT.out (by simp)
          obtain ⟨A, hA⟩ : ∃ A, a * b = A := ⟨_, rfl⟩
          obtain ⟨C, hC⟩ : ∃ C, Q * c = C := ⟨_, rfl⟩
          rw [hA] at pb hx
          rw [hC] at hx
          obtain ⟨p1, p2⟩ := pb
          have cb1 : -1152922604118474752 ≤ C := by omega
          have cb2 : C ≤ 1152922604118474752 := by omega
          have wA : IntKind.i64.wrap (a * b) = A := by rw [hA]; exact IntWalk.i64_in _ (by omega)
          have wA2 : wrap64 (a * b) = A := by rw [← IntWalk.i64_left]; exact wA
          have wC : IntKind.i64.wrap (Q * c) = C := by rw [hC]; exact IntWalk.i64_in _ (by omega)
          have wC2 : wrap64 (Q * c) = C := by rw [← IntWalk.i64_left]; exact wC
          have z1 : -1099511627776 ≤ x := by omega
          have z2 : x ≤ 1099511627776 := by omega
          have q2 : Q % 2 = 0 → Q.tmod 2 = 0 := fun h => Int.tmod_eq_zero_of_dvd (Int.dvd_of_emod_eq_zero h)
          clear hA hC
          skip
          by_cases t1 : 2 * x = y
          · have q3 : (Q.tmod 2 == 0) = true := by rw [q2 (x3 (.inl t1))]; rfl
            clear x3 q2
            go_wp2_with fail
            all_goals go_ret
            all_goals exact ⟨rfl, by repeat (first | exact kp_refl _ | assumption | apply kp_alloc | refine kp_trans ?_ (by assumption))⟩
          · by_cases t2 : -(2 * x) = y
            · have q3 : (Q.tmod 2 == 0) = true := by rw [q2 (x3 (.inr t2))]; rfl
              clear x3 q2
              go_wp2_with fail
              all_goals go_ret
              all_goals exact ⟨rfl, by repeat (first | exact kp_refl _ | assumption | apply kp_alloc | refine kp_trans ?_ (by assumption))⟩
            · clear x3 q2
              go_wp2_with fail
              all_goals go_ret
              all_goals exact ⟨rfl, by repeat (first | exact kp_refl _ | assumption | apply kp_alloc | refine kp_trans ?_ (by assumption))⟩
        · have HR := Lib.hid hr
          clear hr
          go_wp2_with fail
          all_goals go_ret
          all_goals first | exact ⟨rfl, by repeat (first | exact kp_refl _ | assumption | apply kp_alloc | refine kp_trans ?_ (by assumption))⟩ | exact (HR.out ⟨⟨by omega, by omega⟩, ⟨by omega, by omega⟩, by omega⟩).elim
      · skip
        go_wp2_with fail
        all_goals go_ret
        all_goals exact ⟨rfl, by repeat (first | exact kp_refl _ | assumption | apply kp_alloc | refine kp_trans ?_ (by assumption))⟩
    · have hfl : F < 9223372036854775807 := by have := HF.out; unfold I64 at this; omega
      have fm : decide (F < 9223372036854775807) = true := decide_eq_true hfl
      have hi1 : I64 (F + 1) := by have := HF.out; unfold I64 at *; omega
      have d2 := fun w => D2H.out w hi1
      obtain ⟨F1v, hF1⟩ : ∃ x, F + 1 = x := ⟨_, rfl⟩
      have ew : IntKind.i64.wrap F1v = F1v := by rw [← hF1]; unfold I64 at hi1; exact IntWalk.i64_in _ (by omega)
      rw [hF1] at d2
      have D2X := Lib.hid d2
      clear d2 hi1 hfl hfm
      go_wp2_with fail
      go_at_call 12; refine (D1H.out _).mono ?_; rintro e w3 ⟨rfl, kw3⟩
      go_wp2_with fail
      go_at_call 12; refine (D2X.out _).mono ?_; rintro e w5 ⟨rfl, kw5⟩
      go_wp2_with fail
      go_at_call 15; refine (F2.out _).mono ?_; rintro e w4 ⟨rfl, kw4⟩
      rcases eG with rfl | rfl
      · skip
        rcases NE.out (by simp) (by simp) with k | k
        · subst k
          have qf : (Q != Q) = false := by simp
          by_cases hr : (-1099511627776 ≤ a ∧ a ≤ 1099511627776) ∧ (-1048576 ≤ b ∧ b ≤ 1048576) ∧ y ≤ 1099511627776
          · obtain ⟨⟨r1, r2⟩, ⟨r3, r4⟩, r5⟩ := hr
            have pb := prod_bd (a := a) (b := b) ⟨r1, r2⟩ ⟨r3, r4⟩
            obtain ⟨x, hx, x1, x2, x3⟩ := NT.out (by simp)
            obtain ⟨A, hA⟩ : ∃ A, a * b = A := ⟨_, rfl⟩
            obtain ⟨C, hC⟩ : ∃ C, Q * c = C := ⟨_, rfl⟩
            rw [hA] at pb hx
            rw [hC] at hx
            obtain ⟨p1, p2⟩ := pb
            have cb1 : -1152922604118474752 ≤ C := by omega
            have cb2 : C ≤ 1152922604118474752 := by omega
            have wA : IntKind.i64.wrap (a * b) = A := by rw [hA]; exact IntWalk.i64_in _ (by omega)
            have wA2 : wrap64 (a * b) = A := by rw [← IntWalk.i64_left]; exact wA
            have wC : IntKind.i64.wrap (Q * c) = C := by rw [hC]; exact IntWalk.i64_in _ (by omega)
            have wC2 : wrap64 (Q * c) = C := by rw [← IntWalk.i64_left]; exact wC
            have z1 : -1099511627776 ≤ x := by omega
            have z2 : x ≤ 1099511627776 := by omega
            have q2 : Q % 2 = 0 → Q.tmod 2 = 0 := fun h => Int.tmod_eq_zero_of_dvd (Int.dvd_of_emod_eq_zero h)
            clear hA hC
            skip
            by_cases t1 : 2 * x = y
            · have q3 : (Q.tmod 2 == 0) = true := by rw [q2 (x3 (.inl t1))]; rfl
              clear x3 q2
              go_wp2_with fail
              all_goals go_ret
              all_goals exact ⟨rfl, by repeat (first | exact kp_refl _ | assumption | apply kp_alloc | refine kp_trans ?_ (by assumption))⟩
            · by_cases t2 : -(2 * x) = y
              · have q3 : (Q.tmod 2 == 0) = true := by rw [q2 (x3 (.inr t2))]; rfl
                clear x3 q2
                go_wp2_with fail
                all_goals go_ret
                all_goals exact ⟨rfl, by repeat (first | exact kp_refl _ | assumption | apply kp_alloc | refine kp_trans ?_ (by assumption))⟩
              · clear x3 q2
                go_wp2_with fail
                all_goals go_ret
                all_goals exact ⟨rfl, by repeat (first | exact kp_refl _ | assumption | apply kp_alloc | refine kp_trans ?_ (by assumption))⟩
          · have HR := Lib.hid hr
            clear hr
            go_wp2_with fail
            all_goals go_ret
            all_goals first | exact ⟨rfl, by repeat (first | exact kp_refl _ | assumption | apply kp_alloc | refine kp_trans ?_ (by assumption))⟩ | exact (HR.out ⟨⟨by omega, by omega⟩, ⟨by omega, by omega⟩, by omega⟩).elim
        · have qf : (Q != F) = true := by simp; omega
          have qf2 : (Q != F1v) = false := by simp; omega
          clear k
          by_cases hr : (-1099511627776 ≤ a ∧ a ≤ 1099511627776) ∧ (-1048576 ≤ b ∧ b ≤ 1048576) ∧ y ≤ 1099511627776
          · obtain ⟨⟨r1, r2⟩, ⟨r3, r4⟩, r5⟩ := hr
            have pb := prod_bd (a := a) (b := b) ⟨r1, r2⟩ ⟨r3, r4⟩
            obtain ⟨x, hx, x1, x2, x3⟩ := NT.out (by simp)
            obtain ⟨A, hA⟩ : ∃ A, a * b = A := ⟨_, rfl⟩
            obtain ⟨C, hC⟩ : ∃ C, Q * c = C := ⟨_, rfl⟩
            rw [hA] at pb hx
            rw [hC] at hx
            obtain ⟨p1, p2⟩ := pb
            have cb1 : -1152922604118474752 ≤ C := by omega
            have cb2 : C ≤ 1152922604118474752 := by omega
            have wA : IntKind.i64.wrap (a * b) = A := by rw [hA]; exact IntWalk.i64_in _ (by omega)
            have wA2 : wrap64 (a * b) = A := by rw [← IntWalk.i64_left]; exact wA
            have wC : IntKind.i64.wrap (Q * c) = C := by rw [hC]; exact IntWalk.i64_in _ (by omega)
            have wC2 : wrap64 (Q * c) = C := by rw [← IntWalk.i64_left]; exact wC
            have z1 : -1099511627776 ≤ x := by omega
            have z2 : x ≤ 1099511627776 := by omega
            have q2 : Q % 2 = 0 → Q.tmod 2 = 0 := fun h => Int.tmod_eq_zero_of_dvd (Int.dvd_of_emod_eq_zero h)
            clear hA hC
            skip
            by_cases t1 : 2 * x = y
            · have q3 : (Q.tmod 2 == 0) = true := by rw [q2 (x3 (.inl t1))]; rfl
              clear x3 q2
              go_wp2_with fail
              all_goals go_ret
              all_goals exact ⟨rfl, by repeat (first | exact kp_refl _ | assumption | apply kp_alloc | refine kp_trans ?_ (by assumption))⟩
            · by_cases t2 : -(2 * x) = y
              · have q3 : (Q.tmod 2 == 0) = true := by rw [q2 (x3 (.inr t2))]; rfl
                clear x3 q2
                go_wp2_with fail
                all_goals go_ret
                all_goals exact ⟨rfl, by repeat (first | exact kp_refl _ | assumption | apply kp_alloc | refine kp_trans ?_ (by assumption))⟩
              · clear x3 q2
                go_wp2_with fail
                all_goals go_ret
                all_goals exact ⟨rfl, by repeat (first | exact kp_refl _ | assumption | apply kp_alloc | refine kp_trans ?_ (by assumption))⟩
          · have HR := Lib.hid hr
            clear hr
            go_wp2_with fail
            all_goals go_ret
            all_goals first | exact ⟨rfl, by repeat (first | exact kp_refl _ | assumption | apply kp_alloc | refine kp_trans ?_ (by assumption))⟩ | exact (HR.out ⟨⟨by omega, by omega⟩, ⟨by omega, by omega⟩, by omega⟩).elim
      · skip
        go_wp2_with fail
        all_goals go_ret
        all_goals exact ⟨rfl, by repeat (first | exact kp_refl _ | assumption | apply kp_alloc | refine kp_trans ?_ (by assumption))⟩
  · go_wp2_with fail
    go_at_call 15; refine (F2.out _).mono ?_; rintro e w4 ⟨rfl, kw4⟩
    rcases eG with rfl | rfl
    · skip
      by_cases hr : (-1099511627776 ≤ a ∧ a ≤ 1099511627776) ∧ (-1048576 ≤ b ∧ b ≤ 1048576) ∧ y ≤ 1099511627776
      · obtain ⟨⟨r1, r2⟩, ⟨r3, r4⟩, r5⟩ := hr
        have pb := prod_bd (a := a) (b := b) ⟨r1, r2⟩ ⟨r3, r4⟩
        obtain ⟨x, hx, x1, x2, x3⟩ := NT.out (by simp)
        obtain ⟨A, hA⟩ : ∃ A, a * b = A := ⟨_, rfl⟩
        obtain ⟨C, hC⟩ : ∃ C, Q * c = C := ⟨_, rfl⟩
        rw [hA] at pb hx
        rw [hC] at hx
        obtain ⟨p1, p2⟩ := pb
        have cb1 : -1152922604118474752 ≤ C := by omega
        have cb2 : C ≤ 1152922604118474752 := by omega
        have wA : IntKind.i64.wrap (a * b) = A := by rw [hA]; exact IntWalk.i64_in _ (by omega)
        have wA2 : wrap64 (a * b) = A := by rw [← IntWalk.i64_left]; exact wA
        have wC : IntKind.i64.wrap (Q * c) = C := by rw [hC]; exact IntWalk.i64_in _ (by omega)
        have wC2 : wrap64 (Q * c) = C := by rw [← IntWalk.i64_left]; exact wC
        have z1 : -1099511627776 ≤ x := by omega
        have z2 : x ≤ 1099511627776 := by omega
        have q2 : Q % 2 = 0 → Q.tmod 2 = 0 := fun h => Int.tmod_eq_zero_of_dvd (Int.dvd_of_emod_eq_zero h)
        clear hA hC
        skip
        by_cases t1 : 2 * x = y
        · have q3 : (Q.tmod 2 == 0) = true := by rw [q2 (x3 (.inl t1))]; rfl
          clear x3 q2
          go_wp2_with fail
          all_goals go_ret
          all_goals exact ⟨rfl, by repeat (first | exact kp_refl _ | assumption | apply kp_alloc | refine kp_trans ?_ (by assumption))⟩
        · by_cases t2 : -(2 * x) = y
          · have q3 : (Q.tmod 2 == 0) = true := by rw [q2 (x3 (.inr t2))]; rfl
            clear x3 q2
            go_wp2_with fail
            all_goals go_ret
            all_goals exact ⟨rfl, by repeat (first | exact kp_refl _ | assumption | apply kp_alloc | refine kp_trans ?_ (by assumption))⟩
          · clear x3 q2
            go_wp2_with fail
            all_goals go_ret
            all_goals exact ⟨rfl, by repeat (first | exact kp_refl _ | assumption | apply kp_alloc | refine kp_trans ?_ (by assumption))⟩
      · have HR := Lib.hid hr
        clear hr
        go_wp2_with fail
        all_goals go_ret
        all_goals first | exact ⟨rfl, by repeat (first | exact kp_refl _ | assumption | apply kp_alloc | refine kp_trans ?_ (by assumption))⟩ | exact (HR.out ⟨⟨by omega, by omega⟩, ⟨by omega, by omega⟩, by omega⟩).elim
    · skip
      go_wp2_with fail
      all_goals go_ret
      all_goals exact ⟨rfl, by repeat (first | exact kp_refl _ | assumption | apply kp_alloc | refine kp_trans ?_ (by assumption))⟩
set_option maxHeartbeats 8000000 in
set_option maxRecDepth 100000 in
theorem wideNear_walk (a : Int) (ha : I64 a) (b : Int) (hb : I64 b) (c : Int) (hc : I64 c) (w : World) : Calls Try.prog 5 #[.int .i64 a, .int .i64 b, .int .i64 c] w fun e w' => e = .returned (.bool true) ∧ Kp w w' := by
  by_cases h0 : c = 0
  · subst h0
    go_enter Try.func5, Try.ntmps5
    go_wp2_with fail
    go_at_call 14; refine (awake01_any _).mono ?_; rintro e w1 ⟨rfl, kw1⟩
    go_wp2_with fail
    go_ret
    exact ⟨rfl, kw1⟩
  · cases hm : (c == -9223372036854775808)
    · rcases Int.lt_or_le c 0 with k | k
      · exact near_any a ha b hb c hc (-1) (-c) (.inr rfl) (by omega) (by omega) hm w
      · exact near_any a ha b hb c hc 1 c (.inl rfl) (by omega) (by omega) hm w
    · have hz : (c == 0) = false := by simp [h0]
      clear h0
      go_enter Try.func5, Try.ntmps5
      go_wp2_with fail
      go_at_call 14; refine (awake01_any _).mono ?_; rintro e w1 ⟨rfl, kw1⟩
      go_wp2_with fail
      go_ret
      exact ⟨rfl, kw1⟩
end Go.Proofs.Ytcadaejpegdpeaa
