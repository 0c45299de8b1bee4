/- Contracts of wide's divisions: divide, Even, Floor. -/
import Derived.Test.YtcmijedhjebpkaaWD
namespace Go.Proofs.Ytcmijedhjebpkaa
open Go.RowKit Go.Proofs.Geo

theorem mulHL (a b : Int) : (mulH a b).toNat * 18446744073709551616 + (mulL a b).toNat = (a * b).natAbs := by
  rw [Int.natAbs_mul]; unfold mulH mulL; omega
theorem i64_abs {c : Int} (h : I64 c) : c.natAbs < 18446744073709551616 := by unfold I64 at h; omega
theorem sgn_wrap (a b c : Int) : IntKind.i64.wrap (mulS a b * cmpI c 0) = (a * b).sign * c.sign := by
  rw [mulS_eq, cmpI_zero]
  refine IntWalk.i64_in _ ?_
  have h1 := sign_bd (a * b)
  have h2 := sign_bd c
  have e1 : (a * b).sign = -1 ∨ (a * b).sign = 0 ∨ (a * b).sign = 1 := by omega
  rcases e1 with e | e | e <;> rw [e] <;> omega
theorem divR_no {up : Nat → Nat → Nat → Bool → Bool} {a b c : Int} (h : c = 0) : divR up a b c = (0, 2) := by unfold divR; rw [if_pos h]
theorem divR_big {up : Nat → Nat → Nat → Bool → Bool} {a b c : Int} {H L : Nat} (h : c ≠ 0) (hn : H * 18446744073709551616 + L = (a * b).natAbs) (hy : c.natAbs ≤ H) : divR up a b c = (0, 5) := by
  unfold divR; rw [if_neg h]
  refine sgnd_out ?_ _
  refine Nat.le_trans ?_ (Nat.le_add_right _ _)
  rw [Nat.le_div_iff_mul_le (by omega), ← hn]
  have := Nat.mul_le_mul_left 18446744073709551616 hy
  omega
theorem divR_val {up : Nat → Nat → Nat → Bool → Bool} {a b c : Int} {N q r y : Nat} {bl u : Bool} (h : c ≠ 0) (hN : N = (a * b).natAbs) (hy : c.natAbs = y) (hq : N / y = q) (hr : N % y = r) (hb : blw a b c = bl) (hu : up q r y bl = u) : divR up a b c = sgnd (q + if u then 1 else 0) bl := by
  unfold divR; rw [if_neg h, ← hN, hy, hq, hr, hb, hu]
theorem div_lt64 {H L y : Nat} (h : H < y) (hl : L < 18446744073709551616) : (H * 18446744073709551616 + L) / y < 18446744073709551616 := by
  rw [Nat.div_lt_iff_lt_mul (by omega)]
  have := Nat.mul_le_mul_right 18446744073709551616 (show H + 1 ≤ y from h)
  rw [Nat.add_mul] at this
  rw [Nat.mul_comm 18446744073709551616]; omega

set_option maxHeartbeats 8000000 in
set_option maxRecDepth 100000 in
theorem dive_any (a b c : Int) (ha : I64 a) (hb : I64 b) (hc : I64 c) (w : World) : Calls Try.prog 45 #[.int .i64 a, .int .i64 b, .int .i64 c, .func (.func 46) #[] #[]] w fun e w' => e = .returned (.tuple #[.int .i64 (divR (fun q r y _ => evUp q r y) a b c).1, .int .i64 (divR (fun q r y _ => evUp q r y) a b c).2]) ∧ Kp w w' := by
  by_cases h0 : c = 0
  · have H := Lib.hid (divR_no (up := (fun q r y _ => evUp q r y)) (a := a) (b := b) h0)
    subst h0
    go_enter Try.func45, Try.ntmps45
    go_wp2
    go_ret2
    exact ⟨ret2 (by rw [H.out]) (by rw [H.out]), kp_refl _⟩
  · have hc0 : (c == 0) = false := by simp [h0]
    obtain ⟨H, hH⟩ : ∃ H : Nat, mulH a b = (H : Int) := ⟨_, rfl⟩
    obtain ⟨L, hL⟩ : ∃ L : Nat, mulL a b = (L : Int) := ⟨_, rfl⟩
    obtain ⟨Y, hY⟩ : ∃ Y : Nat, c.natAbs = Y := ⟨_, rfl⟩
    obtain ⟨bl, hbl⟩ : ∃ x, blw a b c = x := ⟨_, rfl⟩
    have hn : H * 18446744073709551616 + L = (a * b).natAbs := by have := mulHL a b; rw [hH, hL] at this; simpa using this
    have hL64 : L < 18446744073709551616 := by have : mulL a b < 18446744073709551616 := by unfold mulL; omega
                                               omega
    have hY64 : Y < 18446744073709551616 := by rw [← hY]; exact i64_abs hc
    have hY0 : 0 < Y := by omega
    have mm := fun w => mul_any a b ha hb w
    have ms := fun w => size_any c hc w
    have mg := fun w => sign_any c w
    have ws := sgn_wrap a b c
    obtain ⟨S, hS⟩ : ∃ S, (a * b).sign * c.sign = S := ⟨_, rfl⟩
    have hSb : decide (S < 0) = bl := by rw [← hbl, ← hS]; rfl
    rw [hS] at ws
    rw [hH, hL] at mm
    rw [hY] at ms
    generalize mulS a b = M at *
    generalize cmpI c 0 = G at *
    have ws2 : wrap64 (M * G) = S := by rw [← IntWalk.i64_left]; exact ws
    have HM := Lib.hid mm
    have HS := Lib.hid ms
    have HG := Lib.hid mg
    have HY64 := Lib.hid hY64
    have HL64 := Lib.hid hL64
    have HY0 := Lib.hid hY0
    clear mm ms mg hL64 hY64 hY0 hS hH hL
    by_cases hbig : Y ≤ H
    · have HV := Lib.hid (divR_big (up := (fun q r y _ => evUp q r y)) (a := a) (b := b) (c := c) (H := H) (L := L) h0 hn (by rw [hY]; exact hbig))
      clear hn hbl hY h0
      go_enter Try.func45, Try.ntmps45
      go_wp2_with (first
        | (go_at_call 65; refine (HM.out _).mono ?_; rintro e w' ⟨rfl, rfl⟩)
        | (go_at_call 66; refine (HS.out _).mono ?_; rintro e w' ⟨rfl, rfl⟩)
        | (go_at_call 67; refine (HG.out _).mono ?_; rintro e w' ⟨rfl, rfl⟩))
      go_ret2
      exact ⟨ret2 (by rw [HV.out]) (by rw [HV.out]), kp_refl _⟩
    · have hlt : H < Y := by omega
      have hd : decide (Y ≤ H) = false := decide_eq_false hbig
      have hdv := fun w => div64_any H L Y hlt HY64.out HL64.out w
      have hq64 := div_lt64 hlt HL64.out
      have hry : (H * 18446744073709551616 + L) % Y < Y := Nat.mod_lt _ HY0.out
      obtain ⟨q, hq⟩ : ∃ q, (H * 18446744073709551616 + L) / Y = q := ⟨_, rfl⟩
      obtain ⟨r, hr⟩ : ∃ r, (H * 18446744073709551616 + L) % Y = r := ⟨_, rfl⟩
      rw [hq, hr] at hdv
      rw [hq] at hq64
      rw [hr] at hry
      have HRY := Lib.hid hry
      have he := fun (w : World) => ev1_any q r Y bl HRY.out HY64.out w
      obtain ⟨u, hu⟩ : ∃ u, (fun q r y _ => evUp q r y) q r Y bl = u := ⟨_, rfl⟩
      have HV := Lib.hid (divR_val (up := (fun q r y _ => evUp q r y)) h0 hn hY hq hr hbl hu)
      have hu2 : evUp q r Y = u := hu
      rw [hu2] at he
      have HD := Lib.hid hdv
      have HE := Lib.hid he
      have HQ := Lib.hid hq64
      clear hn hbl hY h0 hdv hq hr hu hu2 he hry hq64 hbig
      have hlt2 : decide (Y ≤ H) = false := hd
      cases u
      · have HG2 := Lib.hid (fun w => signed_any q HQ.out bl w)
        go_enter Try.func45, Try.ntmps45
        go_wp2_with (first
          | (go_at_call 65; refine (HM.out _).mono ?_; rintro e w' ⟨rfl, rfl⟩)
          | (go_at_call 66; refine (HS.out _).mono ?_; rintro e w' ⟨rfl, rfl⟩)
          | (go_at_call 67; refine (HG.out _).mono ?_; rintro e w' ⟨rfl, rfl⟩)
          | (go_at_call 24; refine (HD.out _).mono ?_; rintro e w2 ⟨rfl, hk⟩; have HK := Lib.hid hk; clear hk)
          | (go_at_call 46; refine (HE.out _).mono ?_; rintro e w' ⟨rfl, rfl⟩)
          | (go_at_call 68; refine (HG2.out _).mono ?_; rintro e w' ⟨rfl, rfl⟩))
        go_ret2
        exact ⟨ret2 (by rw [HV.out]; rfl) (by rw [HV.out]; rfl), HK.out⟩
      · by_cases hm : q = 18446744073709551615
        · have HV2 : Hid (divR (fun q r y _ => evUp q r y) a b c = (0, 5)) := Lib.hid (by rw [HV.out, hm]; exact sgnd_out (by decide) _)
          have hm2 : ((q : Int) == 18446744073709551615) = true := by rw [hm]; rfl
          clear hm HV
          go_enter Try.func45, Try.ntmps45
          go_wp2_with (first
            | (go_at_call 65; refine (HM.out _).mono ?_; rintro e w' ⟨rfl, rfl⟩)
            | (go_at_call 66; refine (HS.out _).mono ?_; rintro e w' ⟨rfl, rfl⟩)
            | (go_at_call 67; refine (HG.out _).mono ?_; rintro e w' ⟨rfl, rfl⟩)
            | (go_at_call 24; refine (HD.out _).mono ?_; rintro e w2 ⟨rfl, hk⟩; have HK := Lib.hid hk; clear hk)
            | (go_at_call 46; refine (HE.out _).mono ?_; rintro e w' ⟨rfl, rfl⟩))
          go_ret2
          exact ⟨ret2 (by rw [HV2.out]) (by rw [HV2.out]), HK.out⟩
        · have hm2 : ((q : Int) == 18446744073709551615) = false := by simp; omega
          have HG2 := Lib.hid (fun w => signed_any (q + 1) (by have := HQ.out; omega) bl w)
          have hw : IntKind.u64.wrap ((q : Int) + 1) = ((q + 1 : Nat) : Int) := by have := HQ.out; rw [IntKind.wrap_u64]; omega
          have HW := Lib.hid hw
          obtain ⟨q', hq'⟩ : ∃ q', q + 1 = q' := ⟨_, rfl⟩
          rw [hq'] at HG2 hw
          have HV2 : Hid (divR (fun q r y _ => evUp q r y) a b c = sgnd q' bl) := Lib.hid (by rw [HV.out, ← hq']; rfl)
          clear hm HV hq' HW
          go_enter Try.func45, Try.ntmps45
          go_wp2_with (first
            | (go_at_call 65; refine (HM.out _).mono ?_; rintro e w' ⟨rfl, rfl⟩)
            | (go_at_call 66; refine (HS.out _).mono ?_; rintro e w' ⟨rfl, rfl⟩)
            | (go_at_call 67; refine (HG.out _).mono ?_; rintro e w' ⟨rfl, rfl⟩)
            | (go_at_call 24; refine (HD.out _).mono ?_; rintro e w2 ⟨rfl, hk⟩; have HK := Lib.hid hk; clear hk)
            | (go_at_call 46; refine (HE.out _).mono ?_; rintro e w' ⟨rfl, rfl⟩)
            | (go_at_call 68; refine (HG2.out _).mono ?_; rintro e w' ⟨rfl, rfl⟩))
          go_ret2
          exact ⟨ret2 (by rw [HV2.out]) (by rw [HV2.out]), HK.out⟩
theorem even_any (a b c : Int) (ha : I64 a) (hb : I64 b) (hc : I64 c) (w : World) : Calls Try.prog 29 #[.int .i64 a, .int .i64 b, .int .i64 c] w fun e w' => e = .returned (.tuple #[.int .i64 (evR a b c).1, .int .i64 (evR a b c).2]) ∧ Kp w w' := by
  have hd : ∀ w, Calls Try.prog 45 #[.int .i64 a, .int .i64 b, .int .i64 c, .func (.func 46) #[] #[]] w fun e w' => e = .returned (.tuple #[.int .i64 (evR a b c).1, .int .i64 (evR a b c).2]) ∧ Kp w w' := fun w => dive_any a b c ha hb hc w
  generalize (evR a b c).1 = x at *
  generalize (evR a b c).2 = y at *
  have HD := Lib.hid hd
  clear hd
  go_enter Try.func29, Try.ntmps29
  go_wp2_with (go_at_call 45; refine (HD.out _).mono ?_; rintro e w2 ⟨rfl, hk⟩)
  go_ret2
  exact ⟨rfl, hk⟩
end Go.Proofs.Ytcmijedhjebpkaa
