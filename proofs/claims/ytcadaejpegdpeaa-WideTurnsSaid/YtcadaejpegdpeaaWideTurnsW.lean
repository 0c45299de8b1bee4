/- The walk of WideTurns. -/
import Derived.Test.YtcadaejpegdpeaaWA
import Derived.Deep.DeepCutAuto
namespace Go.Proofs.Ytcadaejpegdpeaa
open Go.RowKit Go.Proofs.Geo

theorem dif_turn (a b c d : Int) : dif c d a b = -dif a b c d := by
  unfold dif; rw [← Int.sign_neg]; congr 1; omega
theorem dif_swap (a b c d : Int) : dif b a d c = dif a b c d := by unfold dif; rw [Int.mul_comm b a, Int.mul_comm d c]
theorem dif_same (a b : Int) : dif a b b a = 0 := by unfold dif; rw [Int.mul_comm b a, Int.sub_self]; rfl
theorem dif_neg1 (a b c d : Int) : dif (-a) (-b) c d = dif a b c d := by unfold dif; rw [Int.neg_mul_neg]
theorem dif_neg2 (a b c d : Int) : dif (-a) b (-c) d = -dif a b c d := by
  unfold dif; rw [Int.neg_mul, Int.neg_mul, ← Int.sign_neg]; congr 1; omega
theorem dif_zero (a b : Int) : dif a b 0 0 = mulS a b := by unfold dif; rw [mulS_eq]; simp
theorem dif_bd (a b c d : Int) : -1 ≤ dif a b c d ∧ dif a b c d ≤ 1 := sign_bd _
theorem mulS_zero (a b : Int) : mulS a b = 0 ↔ a = 0 ∨ b = 0 := by rw [mulS_eq, Int.sign_eq_zero_iff_zero, Int.mul_eq_zero]
theorem mulHL_zero (a b : Int) : (mulH a b = 0 ∧ mulL a b = 0) ↔ (a = 0 ∨ b = 0) := by
  have h := mulHL a b
  have h1 : 0 ≤ mulH a b := by unfold mulH; omega
  have h2 : 0 ≤ mulL a b := by unfold mulL; omega
  rw [← Int.mul_eq_zero]
  omega
theorem mul_comm' (a b : Int) : mulH b a = mulH a b ∧ mulL b a = mulL a b ∧ mulS b a = mulS a b := by
  unfold mulH mulL; rw [mulS_eq, mulS_eq, Nat.mul_comm, Int.mul_comm]; exact ⟨rfl, rfl, rfl⟩
theorem neg_i64 {a : Int} (h : I64 a) (g : decide (-9223372036854775808 < a) = true) : I64 (-a) ∧ IntKind.i64.wrap (-a) = -a := by
  have := of_decide_eq_true g
  unfold I64 at *
  exact ⟨by omega, IntWalk.i64_in _ (by omega)⟩

set_option maxHeartbeats 8000000 in
set_option maxRecDepth 100000 in
theorem wideTurns_walk (a : Int) (ha : I64 a) (b : Int) (hb : I64 b) (c : Int) (hc : I64 c) (d : Int) (hd : I64 d) (w : World) : Calls Try.prog 9 #[.int .i64 a, .int .i64 b, .int .i64 c, .int .i64 d] w fun e w' => e = .returned (.bool true) ∧ Kp w w' := by
  have z0 : I64 0 := ⟨by decide, by decide⟩
  have c1 := fun w => wsign_any a b c d ha hb hc hd w
  have c2 := fun w => wsign_any c d a b hc hd ha hb w
  have c3 := fun w => wsign_any b a d c hb ha hd hc w
  have c4 := fun w => wsign_any a b b a ha hb hb ha w
  have c5 := fun w (x : I64 (-a)) (y : I64 (-b)) => wsign_any (-a) (-b) c d x y hc hd w
  have c6 := fun w (x : I64 (-a)) (y : I64 (-c)) => wsign_any (-a) b (-c) d x hb y hd w
  have c7 := fun w => wsign_any a b 0 0 ha hb z0 z0 w
  have m1 := fun w => mul_any a b ha hb w
  have m2 := fun w => mul_any b a hb ha w
  rw [dif_turn] at c2
  rw [dif_swap] at c3
  rw [dif_same] at c4
  rw [dif_neg1] at c5
  rw [dif_neg2] at c6
  rw [dif_zero] at c7
  rw [(mul_comm' a b).1, (mul_comm' a b).2.1, (mul_comm' a b).2.2] at m2
  have sb := dif_bd a b c d
  have q1 := mulS_zero a b
  have q2 := mulHL_zero a b
  generalize dif a b c d = S at *
  generalize mulH a b = H at *
  generalize mulL a b = L at *
  generalize mulS a b = T at *
  obtain ⟨s1, s2⟩ := sb
  have n1 : (-S != -S) = false := by simp
  have n2 : (S != S) = false := by simp
  have n3 : (H == H) = true := by simp
  have n4 : (L == L) = true := by simp
  have n5 : (T == T) = true := by simp
  have C1 := Lib.hid c1; have C2 := Lib.hid c2; have C3 := Lib.hid c3; have C4 := Lib.hid c4; have C5 := Lib.hid c5; have C6 := Lib.hid c6; have C7 := Lib.hid c7; have M1 := Lib.hid m1; have M2 := Lib.hid m2
  have Q1 := Lib.hid q1; have Q2 := Lib.hid q2
  have HA := Lib.hid ha; have HB := Lib.hid hb; have HC := Lib.hid hc
  clear c1 c2 c3 c4 c5 c6 c7 m1 m2 q1 q2 ha hb hc hd z0
  have S0 := Lib.hid s1
  cases ga : decide (-9223372036854775808 < a)
  · skip
    go_enter Try.func9, Try.ntmps9
    go_wp2_with fail
    go_at_call 8; refine (wideKnown_walk _).mono ?_; rintro e w1 ⟨rfl, kw1⟩
    go_wp2_with fail
    go_at_call 12; refine (C1.out _).mono ?_; rintro e w2 ⟨rfl, kw2⟩
    go_wp2_with fail
    go_at_call 12; refine (C2.out _).mono ?_; rintro e w3 ⟨rfl, kw3⟩
    go_wp2_with fail
    go_at_call 12; refine (C3.out _).mono ?_; rintro e w4 ⟨rfl, kw4⟩
    go_wp2_with fail
    go_at_call 12; refine (C4.out _).mono ?_; rintro e w5 ⟨rfl, kw5⟩
    go_wp2_with fail
    go_at_call 10; refine (M1.out _).mono ?_; rintro e w8 ⟨rfl, rfl⟩
    go_wp2_with fail
    go_at_call 10; refine (M2.out _).mono ?_; rintro e w9 ⟨rfl, rfl⟩
    go_upto_region 9 with fail
    by_cases a0 : a = 0
    · have t0 : T = 0 := Q1.out.2 (.inl a0)
      obtain ⟨h0, l0⟩ := Q2.out.2 (.inl a0)
      have e1 : (a == 0) = true := by simp [a0]
      have e2 : (T == 0) = true := by simp [t0]
      have e3 : (H == 0) = true := by simp [h0]
      have e4 : (L == 0) = true := by simp [l0]
      clear a0 t0 h0 l0
      go_wp2_with fail
      go_at_call 12; refine (C7.out _).mono ?_; rintro e w10 ⟨rfl, kw10⟩
      go_wp2_with fail
      go_ret
      exact ⟨rfl, kp_trans (kp_trans (kp_trans (kp_trans (kp_trans (kw1) kw2) kw3) kw4) kw5) kw10⟩
    · have e1 : (a == 0) = false := by simp [a0]
      by_cases b0 : b = 0
      · have t0 : T = 0 := Q1.out.2 (.inr b0)
        obtain ⟨h0, l0⟩ := Q2.out.2 (.inr b0)
        have e5 : (b == 0) = true := by simp [b0]
        have e2 : (T == 0) = true := by simp [t0]
        have e3 : (H == 0) = true := by simp [h0]
        have e4 : (L == 0) = true := by simp [l0]
        clear a0 b0 t0 h0 l0
        go_wp2_with fail
        go_at_call 12; refine (C7.out _).mono ?_; rintro e w10 ⟨rfl, kw10⟩
        go_wp2_with fail
        go_ret
        exact ⟨rfl, kp_trans (kp_trans (kp_trans (kp_trans (kp_trans (kw1) kw2) kw3) kw4) kw5) kw10⟩
      · have e5 : (b == 0) = false := by simp [b0]
        have e2 : (T == 0) = false := by simp; intro t; rcases Q1.out.1 t with x | x <;> contradiction
        by_cases h0 : H = 0
        · have e3 : (H == 0) = true := by simp [h0]
          have e4 : (L == 0) = false := by simp; intro t; rcases Q2.out.1 ⟨h0, t⟩ with x | x <;> contradiction
          clear a0 b0 h0
          go_wp2_with fail
          go_at_call 12; refine (C7.out _).mono ?_; rintro e w10 ⟨rfl, kw10⟩
          go_wp2_with fail
          go_ret
          exact ⟨rfl, kp_trans (kp_trans (kp_trans (kp_trans (kp_trans (kw1) kw2) kw3) kw4) kw5) kw10⟩
        · have e3 : (H == 0) = false := by simp [h0]
          clear a0 b0 h0
          go_wp2_with fail
          go_at_call 12; refine (C7.out _).mono ?_; rintro e w10 ⟨rfl, kw10⟩
          go_wp2_with fail
          go_ret
          exact ⟨rfl, kp_trans (kp_trans (kp_trans (kp_trans (kp_trans (kw1) kw2) kw3) kw4) kw5) kw10⟩
  · have NA := Lib.hid (neg_i64 HA.out ga)
    cases gb : decide (-9223372036854775808 < b)
    · skip
      go_enter Try.func9, Try.ntmps9
      go_wp2_with fail
      go_at_call 8; refine (wideKnown_walk _).mono ?_; rintro e w1 ⟨rfl, kw1⟩
      go_wp2_with fail
      go_at_call 12; refine (C1.out _).mono ?_; rintro e w2 ⟨rfl, kw2⟩
      go_wp2_with fail
      go_at_call 12; refine (C2.out _).mono ?_; rintro e w3 ⟨rfl, kw3⟩
      go_wp2_with fail
      go_at_call 12; refine (C3.out _).mono ?_; rintro e w4 ⟨rfl, kw4⟩
      go_wp2_with fail
      go_at_call 12; refine (C4.out _).mono ?_; rintro e w5 ⟨rfl, kw5⟩
      go_wp2_with fail
      go_at_call 10; refine (M1.out _).mono ?_; rintro e w8 ⟨rfl, rfl⟩
      go_wp2_with fail
      go_at_call 10; refine (M2.out _).mono ?_; rintro e w9 ⟨rfl, rfl⟩
      go_upto_region 9 with fail
      by_cases a0 : a = 0
      · have t0 : T = 0 := Q1.out.2 (.inl a0)
        obtain ⟨h0, l0⟩ := Q2.out.2 (.inl a0)
        have e1 : (a == 0) = true := by simp [a0]
        have e2 : (T == 0) = true := by simp [t0]
        have e3 : (H == 0) = true := by simp [h0]
        have e4 : (L == 0) = true := by simp [l0]
        clear a0 t0 h0 l0
        go_wp2_with fail
        go_at_call 12; refine (C7.out _).mono ?_; rintro e w10 ⟨rfl, kw10⟩
        go_wp2_with fail
        go_ret
        exact ⟨rfl, kp_trans (kp_trans (kp_trans (kp_trans (kp_trans (kw1) kw2) kw3) kw4) kw5) kw10⟩
      · have e1 : (a == 0) = false := by simp [a0]
        by_cases b0 : b = 0
        · have t0 : T = 0 := Q1.out.2 (.inr b0)
          obtain ⟨h0, l0⟩ := Q2.out.2 (.inr b0)
          have e5 : (b == 0) = true := by simp [b0]
          have e2 : (T == 0) = true := by simp [t0]
          have e3 : (H == 0) = true := by simp [h0]
          have e4 : (L == 0) = true := by simp [l0]
          clear a0 b0 t0 h0 l0
          go_wp2_with fail
          go_at_call 12; refine (C7.out _).mono ?_; rintro e w10 ⟨rfl, kw10⟩
          go_wp2_with fail
          go_ret
          exact ⟨rfl, kp_trans (kp_trans (kp_trans (kp_trans (kp_trans (kw1) kw2) kw3) kw4) kw5) kw10⟩
        · have e5 : (b == 0) = false := by simp [b0]
          have e2 : (T == 0) = false := by simp; intro t; rcases Q1.out.1 t with x | x <;> contradiction
          by_cases h0 : H = 0
          · have e3 : (H == 0) = true := by simp [h0]
            have e4 : (L == 0) = false := by simp; intro t; rcases Q2.out.1 ⟨h0, t⟩ with x | x <;> contradiction
            clear a0 b0 h0
            go_wp2_with fail
            go_at_call 12; refine (C7.out _).mono ?_; rintro e w10 ⟨rfl, kw10⟩
            go_wp2_with fail
            go_ret
            exact ⟨rfl, kp_trans (kp_trans (kp_trans (kp_trans (kp_trans (kw1) kw2) kw3) kw4) kw5) kw10⟩
          · have e3 : (H == 0) = false := by simp [h0]
            clear a0 b0 h0
            go_wp2_with fail
            go_at_call 12; refine (C7.out _).mono ?_; rintro e w10 ⟨rfl, kw10⟩
            go_wp2_with fail
            go_ret
            exact ⟨rfl, kp_trans (kp_trans (kp_trans (kp_trans (kp_trans (kw1) kw2) kw3) kw4) kw5) kw10⟩
    · have NB := Lib.hid (neg_i64 HB.out gb)
      cases gc : decide (-9223372036854775808 < c)
      · skip
        go_enter Try.func9, Try.ntmps9
        go_wp2_with fail
        go_at_call 8; refine (wideKnown_walk _).mono ?_; rintro e w1 ⟨rfl, kw1⟩
        go_wp2_with fail
        go_at_call 12; refine (C1.out _).mono ?_; rintro e w2 ⟨rfl, kw2⟩
        go_wp2_with fail
        go_at_call 12; refine (C2.out _).mono ?_; rintro e w3 ⟨rfl, kw3⟩
        go_wp2_with fail
        go_at_call 12; refine (C3.out _).mono ?_; rintro e w4 ⟨rfl, kw4⟩
        go_wp2_with fail
        go_at_call 12; refine (C4.out _).mono ?_; rintro e w5 ⟨rfl, kw5⟩
        go_wp2_with fail
        go_at_call 10; refine (M1.out _).mono ?_; rintro e w8 ⟨rfl, rfl⟩
        go_wp2_with fail
        go_at_call 10; refine (M2.out _).mono ?_; rintro e w9 ⟨rfl, rfl⟩
        go_upto_region 9 with fail
        by_cases a0 : a = 0
        · have t0 : T = 0 := Q1.out.2 (.inl a0)
          obtain ⟨h0, l0⟩ := Q2.out.2 (.inl a0)
          have e1 : (a == 0) = true := by simp [a0]
          have e2 : (T == 0) = true := by simp [t0]
          have e3 : (H == 0) = true := by simp [h0]
          have e4 : (L == 0) = true := by simp [l0]
          clear a0 t0 h0 l0
          go_wp2_with fail
          go_at_call 12; refine (C7.out _).mono ?_; rintro e w10 ⟨rfl, kw10⟩
          go_wp2_with fail
          go_ret
          exact ⟨rfl, kp_trans (kp_trans (kp_trans (kp_trans (kp_trans (kw1) kw2) kw3) kw4) kw5) kw10⟩
        · have e1 : (a == 0) = false := by simp [a0]
          by_cases b0 : b = 0
          · have t0 : T = 0 := Q1.out.2 (.inr b0)
            obtain ⟨h0, l0⟩ := Q2.out.2 (.inr b0)
            have e5 : (b == 0) = true := by simp [b0]
            have e2 : (T == 0) = true := by simp [t0]
            have e3 : (H == 0) = true := by simp [h0]
            have e4 : (L == 0) = true := by simp [l0]
            clear a0 b0 t0 h0 l0
            go_wp2_with fail
            go_at_call 12; refine (C7.out _).mono ?_; rintro e w10 ⟨rfl, kw10⟩
            go_wp2_with fail
            go_ret
            exact ⟨rfl, kp_trans (kp_trans (kp_trans (kp_trans (kp_trans (kw1) kw2) kw3) kw4) kw5) kw10⟩
          · have e5 : (b == 0) = false := by simp [b0]
            have e2 : (T == 0) = false := by simp; intro t; rcases Q1.out.1 t with x | x <;> contradiction
            by_cases h0 : H = 0
            · have e3 : (H == 0) = true := by simp [h0]
              have e4 : (L == 0) = false := by simp; intro t; rcases Q2.out.1 ⟨h0, t⟩ with x | x <;> contradiction
              clear a0 b0 h0
              go_wp2_with fail
              go_at_call 12; refine (C7.out _).mono ?_; rintro e w10 ⟨rfl, kw10⟩
              go_wp2_with fail
              go_ret
              exact ⟨rfl, kp_trans (kp_trans (kp_trans (kp_trans (kp_trans (kw1) kw2) kw3) kw4) kw5) kw10⟩
            · have e3 : (H == 0) = false := by simp [h0]
              clear a0 b0 h0
              go_wp2_with fail
              go_at_call 12; refine (C7.out _).mono ?_; rintro e w10 ⟨rfl, kw10⟩
              go_wp2_with fail
              go_ret
              exact ⟨rfl, kp_trans (kp_trans (kp_trans (kp_trans (kp_trans (kw1) kw2) kw3) kw4) kw5) kw10⟩
      · have NC := Lib.hid (neg_i64 HC.out gc)
        cases gd : decide (-9223372036854775808 < d)
        · skip
          go_enter Try.func9, Try.ntmps9
          go_wp2_with fail
          go_at_call 8; refine (wideKnown_walk _).mono ?_; rintro e w1 ⟨rfl, kw1⟩
          go_wp2_with fail
          go_at_call 12; refine (C1.out _).mono ?_; rintro e w2 ⟨rfl, kw2⟩
          go_wp2_with fail
          go_at_call 12; refine (C2.out _).mono ?_; rintro e w3 ⟨rfl, kw3⟩
          go_wp2_with fail
          go_at_call 12; refine (C3.out _).mono ?_; rintro e w4 ⟨rfl, kw4⟩
          go_wp2_with fail
          go_at_call 12; refine (C4.out _).mono ?_; rintro e w5 ⟨rfl, kw5⟩
          go_wp2_with fail
          go_at_call 10; refine (M1.out _).mono ?_; rintro e w8 ⟨rfl, rfl⟩
          go_wp2_with fail
          go_at_call 10; refine (M2.out _).mono ?_; rintro e w9 ⟨rfl, rfl⟩
          go_upto_region 9 with fail
          by_cases a0 : a = 0
          · have t0 : T = 0 := Q1.out.2 (.inl a0)
            obtain ⟨h0, l0⟩ := Q2.out.2 (.inl a0)
            have e1 : (a == 0) = true := by simp [a0]
            have e2 : (T == 0) = true := by simp [t0]
            have e3 : (H == 0) = true := by simp [h0]
            have e4 : (L == 0) = true := by simp [l0]
            clear a0 t0 h0 l0
            go_wp2_with fail
            go_at_call 12; refine (C7.out _).mono ?_; rintro e w10 ⟨rfl, kw10⟩
            go_wp2_with fail
            go_ret
            exact ⟨rfl, kp_trans (kp_trans (kp_trans (kp_trans (kp_trans (kw1) kw2) kw3) kw4) kw5) kw10⟩
          · have e1 : (a == 0) = false := by simp [a0]
            by_cases b0 : b = 0
            · have t0 : T = 0 := Q1.out.2 (.inr b0)
              obtain ⟨h0, l0⟩ := Q2.out.2 (.inr b0)
              have e5 : (b == 0) = true := by simp [b0]
              have e2 : (T == 0) = true := by simp [t0]
              have e3 : (H == 0) = true := by simp [h0]
              have e4 : (L == 0) = true := by simp [l0]
              clear a0 b0 t0 h0 l0
              go_wp2_with fail
              go_at_call 12; refine (C7.out _).mono ?_; rintro e w10 ⟨rfl, kw10⟩
              go_wp2_with fail
              go_ret
              exact ⟨rfl, kp_trans (kp_trans (kp_trans (kp_trans (kp_trans (kw1) kw2) kw3) kw4) kw5) kw10⟩
            · have e5 : (b == 0) = false := by simp [b0]
              have e2 : (T == 0) = false := by simp; intro t; rcases Q1.out.1 t with x | x <;> contradiction
              by_cases h0 : H = 0
              · have e3 : (H == 0) = true := by simp [h0]
                have e4 : (L == 0) = false := by simp; intro t; rcases Q2.out.1 ⟨h0, t⟩ with x | x <;> contradiction
                clear a0 b0 h0
                go_wp2_with fail
                go_at_call 12; refine (C7.out _).mono ?_; rintro e w10 ⟨rfl, kw10⟩
                go_wp2_with fail
                go_ret
                exact ⟨rfl, kp_trans (kp_trans (kp_trans (kp_trans (kp_trans (kw1) kw2) kw3) kw4) kw5) kw10⟩
              · have e3 : (H == 0) = false := by simp [h0]
                clear a0 b0 h0
                go_wp2_with fail
                go_at_call 12; refine (C7.out _).mono ?_; rintro e w10 ⟨rfl, kw10⟩
                go_wp2_with fail
                go_ret
                exact ⟨rfl, kp_trans (kp_trans (kp_trans (kp_trans (kp_trans (kw1) kw2) kw3) kw4) kw5) kw10⟩
        · obtain ⟨na, nb, nc⟩ : IntKind.i64.wrap (-a) = -a ∧ IntKind.i64.wrap (-b) = -b ∧ IntKind.i64.wrap (-c) = -c := ⟨NA.out.2, NB.out.2, NC.out.2⟩
          have na2 : wrap64 (-a) = -a := by rw [← IntWalk.i64_left]; exact na
          have nb2 : wrap64 (-b) = -b := by rw [← IntWalk.i64_left]; exact nb
          have nc2 : wrap64 (-c) = -c := by rw [← IntWalk.i64_left]; exact nc
          go_enter Try.func9, Try.ntmps9
          go_wp2_with fail
          go_at_call 8; refine (wideKnown_walk _).mono ?_; rintro e w1 ⟨rfl, kw1⟩
          go_wp2_with fail
          go_at_call 12; refine (C1.out _).mono ?_; rintro e w2 ⟨rfl, kw2⟩
          go_wp2_with fail
          go_at_call 12; refine (C2.out _).mono ?_; rintro e w3 ⟨rfl, kw3⟩
          go_wp2_with fail
          go_at_call 12; refine (C3.out _).mono ?_; rintro e w4 ⟨rfl, kw4⟩
          go_wp2_with fail
          go_at_call 12; refine (C4.out _).mono ?_; rintro e w5 ⟨rfl, kw5⟩
          go_wp2_with fail
          go_at_call 12; refine (C5.out _ NA.out.1 NB.out.1).mono ?_; rintro e w6 ⟨rfl, kw6⟩
          go_wp2_with fail
          go_at_call 12; refine (C6.out _ NA.out.1 NC.out.1).mono ?_; rintro e w7 ⟨rfl, kw7⟩
          go_wp2_with fail
          go_at_call 10; refine (M1.out _).mono ?_; rintro e w8 ⟨rfl, rfl⟩
          go_wp2_with fail
          go_at_call 10; refine (M2.out _).mono ?_; rintro e w9 ⟨rfl, rfl⟩
          go_upto_region 9 with fail
          by_cases a0 : a = 0
          · have t0 : T = 0 := Q1.out.2 (.inl a0)
            obtain ⟨h0, l0⟩ := Q2.out.2 (.inl a0)
            have e1 : (a == 0) = true := by simp [a0]
            have e2 : (T == 0) = true := by simp [t0]
            have e3 : (H == 0) = true := by simp [h0]
            have e4 : (L == 0) = true := by simp [l0]
            clear a0 t0 h0 l0
            go_wp2_with fail
            go_at_call 12; refine (C7.out _).mono ?_; rintro e w10 ⟨rfl, kw10⟩
            go_wp2_with fail
            go_ret
            exact ⟨rfl, kp_trans (kp_trans (kp_trans (kp_trans (kp_trans (kp_trans (kp_trans (kw1) kw2) kw3) kw4) kw5) kw6) kw7) kw10⟩
          · have e1 : (a == 0) = false := by simp [a0]
            by_cases b0 : b = 0
            · have t0 : T = 0 := Q1.out.2 (.inr b0)
              obtain ⟨h0, l0⟩ := Q2.out.2 (.inr b0)
              have e5 : (b == 0) = true := by simp [b0]
              have e2 : (T == 0) = true := by simp [t0]
              have e3 : (H == 0) = true := by simp [h0]
              have e4 : (L == 0) = true := by simp [l0]
              clear a0 b0 t0 h0 l0
              go_wp2_with fail
              go_at_call 12; refine (C7.out _).mono ?_; rintro e w10 ⟨rfl, kw10⟩
              go_wp2_with fail
              go_ret
              exact ⟨rfl, kp_trans (kp_trans (kp_trans (kp_trans (kp_trans (kp_trans (kp_trans (kw1) kw2) kw3) kw4) kw5) kw6) kw7) kw10⟩
            · have e5 : (b == 0) = false := by simp [b0]
              have e2 : (T == 0) = false := by simp; intro t; rcases Q1.out.1 t with x | x <;> contradiction
              by_cases h0 : H = 0
              · have e3 : (H == 0) = true := by simp [h0]
                have e4 : (L == 0) = false := by simp; intro t; rcases Q2.out.1 ⟨h0, t⟩ with x | x <;> contradiction
                clear a0 b0 h0
                go_wp2_with fail
                go_at_call 12; refine (C7.out _).mono ?_; rintro e w10 ⟨rfl, kw10⟩
                go_wp2_with fail
                go_ret
                exact ⟨rfl, kp_trans (kp_trans (kp_trans (kp_trans (kp_trans (kp_trans (kp_trans (kw1) kw2) kw3) kw4) kw5) kw6) kw7) kw10⟩
              · have e3 : (H == 0) = false := by simp [h0]
                clear a0 b0 h0
                go_wp2_with fail
                go_at_call 12; refine (C7.out _).mono ?_; rintro e w10 ⟨rfl, kw10⟩
                go_wp2_with fail
                go_ret
                exact ⟨rfl, kp_trans (kp_trans (kp_trans (kp_trans (kp_trans (kp_trans (kp_trans (kw1) kw2) kw3) kw4) kw5) kw6) kw7) kw10⟩
end Go.Proofs.Ytcadaejpegdpeaa
