/- The contract of math/bits.Div64. -/
import Derived.Test.YtcmijedhjebpkaaDA
import Derived.Test.YtcmijedhjebpkaaK0
import Derived.Test.YtcmijedhjebpkaaDivP
import Derived.IntWalk
import Derived.Deep.DeepCutAuto
import Derived.Deep.CutBlock
namespace Go.Proofs.Ytcmijedhjebpkaa
open Go.RowKit Go.Proofs.Geo Go.Proofs.Wide
/-- The loop's relation. -/
def DivRel (y1 u D a b : Nat) : Prop := a * y1 + b = u ∧ D ≤ a ∧ a ≤ 4294967298 ∧ b < 4294967296
theorem div_zero (lo y : Nat) (hy0 : 0 < y) (hy : y < 18446744073709551616) (hlo : lo < 18446744073709551616) (w : World) : Calls Try.prog 24 #[.int .u64 0, .int .u64 lo, .int .u64 y] w fun e w' => e = .returned (.tuple #[.int .u64 (lo / y : Nat), .int .u64 (lo % y : Nat)]) ∧ Kp w w' := by
  have e1 : ((y : Int) == 0) = false := by simp; omega
  have e3 : (0 : Int) < (y : Int) := by omega
  have e4 : ¬ (y : Int) ≤ 0 := by omega
  have e5 : ¬ y = 0 := by omega
  have q1 : (lo : Int).tdiv (y : Int) = ((lo / y : Nat) : Int) := by rw [Int.tdiv_eq_ediv_of_nonneg (by omega)]; rfl
  have q2 : (lo : Int).tmod (y : Int) = ((lo % y : Nat) : Int) := by rw [Int.tmod_eq_emod_of_nonneg (by omega)]; rfl
  have hq : lo / y ≤ lo := Nat.div_le_self _ _
  have hr : lo % y ≤ lo := Nat.mod_le _ _
  generalize lo / y = q at *
  generalize lo % y = r at *
  go_enter Try.func24, Try.ntmps24
  go_wp2_with fail
  go_quiet (fail)
  go_wp2_with fail
  go_ret2
  exact ⟨rfl, kp_drewN (kp_refl _) _⟩
set_option maxHeartbeats 8000000 in
set_option maxRecDepth 100000 in
theorem div_some (hi lo y : Nat) (hi0 : hi ≠ 0) (h : hi < y) (hy : y < 18446744073709551616) (hlo : lo < 18446744073709551616) (w : World) : Calls Try.prog 24 #[.int .u64 hi, .int .u64 lo, .int .u64 y] w fun e w' => e = .returned (.tuple #[.int .u64 ((hi * 18446744073709551616 + lo) / y : Nat), .int .u64 ((hi * 18446744073709551616 + lo) % y : Nat)]) ∧ Kp w w' := by
  obtain ⟨s, Y, y1, y0, A, B, un, L, l1, l0, ⟨hs, hlz⟩, ⟨hY2, hY1, hYe, hy0, hy1, hy1', hun, hLe, hl1, hl0⟩, hmu, f1, f2, f3, f4, f5, f6, f7, f8, f9⟩ := plan_a h hy hlo
  have F := Lib.hid (And.intro f1 (And.intro f2 (And.intro f3 (And.intro f4 (And.intro f5 (And.intro f6 (And.intro f7 (And.intro f8 f9))))))))
  clear f1 f2 f3 f4 f5 f6 f7 f8 f9
  obtain ⟨D1, R1, q1, r1, p1, p2, p3, p4, p5, p6, p7, p8, p9, p10, GT1, EQ1, OUT1⟩ := plan_b (u := un) (l := l1) hYe hy0 hy1 hun hl1
  obtain ⟨D0, R0, q0, r0, u1, u2, u3, u4, u5, u6, u7, u8, u9, u10, GT0, EQ0, OUT0⟩ := plan_b (u := R1) (l := l0) hYe hy0 hy1 p2 hl0
  have HQ : Hid ((hi * 18446744073709551616 + lo) / y = D1 * 4294967296 + D0 ∧ (hi * 18446744073709551616 + lo) % y = R0 / 2 ^ s) := by
    have hh := two_digits un l1 l0 Y (by omega)
    have e : un * 4294967296 * 4294967296 + l1 * 4294967296 + l0 = un * 18446744073709551616 + L := by rw [← hLe, Nat.mul_assoc, Nat.add_assoc]
    rw [e, p4, p5, u4, u5] at hh
    rw [hh.1, hh.2] at hmu
    exact Lib.hid ⟨hmu.1.symm, hmu.2.symm⟩
  clear hmu
  obtain ⟨P1, a1, a2⟩ := wrem (un := un) p7 (by omega)
  obtain ⟨P0, c1, c2⟩ := wrem (un := R1) u7 (by omega)
  obtain ⟨U1, T1, d1, d2, d3⟩ := wrest p1 (by omega)
  obtain ⟨U0, T0, e1, e2, e3⟩ := wrest u1 (by omega)
  have b1 := wq p6 (by omega)
  have b0 := wq u6 (by omega)
  have W1 := Lib.hid (And.intro b1 (And.intro a1 a2))
  have W2 := Lib.hid (And.intro d1 (And.intro d2 d3))
  have W3 := Lib.hid (And.intro b0 (And.intro c1 c2))
  have e4 := shr_nat R0 s
  obtain ⟨X, hX⟩ : ∃ X, R0 / 2 ^ s = X := ⟨_, rfl⟩
  rw [hX] at e4 HQ
  clear hX
  have W4 := Lib.hid (And.intro e1 (And.intro e2 (And.intro e3 e4)))
  have I1 := Lib.hid p7
  have I0 := Lib.hid u7
  have HG1 := Lib.hid GT1; have HE1 := Lib.hid EQ1; have HO1 := Lib.hid OUT1
  have HG0 := Lib.hid GT0; have HE0 := Lib.hid EQ0; have HO0 := Lib.hid OUT0
  clear b1 a1 a2 d1 d2 d3 b0 c1 c2 e1 e2 e3 e4 p7 u7 GT1 EQ1 OUT1 GT0 EQ0 OUT0 p1 u1 p4 p5 p6 u4 u5 u6 hLe hYe
  have g1 : ((y : Int) == 0) = false := by simp; omega
  have g2 : ((hi : Int) == 0) = false := by simp; omega
  have g3 : (hi : Int) < (y : Int) := by omega
  have g4 : ¬ (y : Int) ≤ (hi : Int) := by omega
  have g5 : (s : Int) ≤ 63 := by omega
  have g9 : (s : Int) ≤ 64 := by omega
  have g10 : s ≤ 64 := by omega
  have g6 : ¬ y1 = 0 := by omega
  have g7 : (D1 : Int) < 4294967296 := by omega
  have g8 : (D0 : Int) < 4294967296 := by omega
  have HLZ := Lib.hid hlz
  obtain ⟨f1, f2, f3, f4, f5, f6, f7, f8, f9⟩ := F.out
  obtain ⟨b1, a1, a2⟩ := W1.out
  clear hlz
  go_enter Try.func24, Try.ntmps24
  go_upto_block 0 with (go_at_call 32; refine (lz64 _ hy _).mono ?_; rintro e w' ⟨rfl, rfl⟩; rw [HLZ.out])
  clear f1 f2 f3 f4 f5 f6 f7 f8 f9 b1 a1 a2
  go_cut [15] (fun v wx => v = .int .u64 (D1 : Nat) ∧ w = wx)
  case first =>
    go_wp2_with fail
    go_loop [15, 16] (fun v t => ∃ a b : Nat, v = .int .u64 a ∧ t = .int .u64 b ∧ DivRel y1 un D1 a b) (fun v _ => (intOf v).toNat)
    case atStart => exact ⟨q1, r1, rfl, rfl, I1.out, p8, p9, Nat.lt_trans p10 hy1'⟩
    case round =>
      obtain ⟨a, b, rfl, rfl, hab, hD, hbd, hb⟩ := hrel
      have cb : (b : Int) < 4294967296 := by omega
      by_cases c1 : 4294967296 ≤ a
      · have c1' : (4294967296 : Int) ≤ (a : Int) := by omega
        obtain ⟨a', ha'⟩ : ∃ a', a = a' + 1 := ⟨a - 1, by omega⟩
        have ea : (a : Int) - 1 = (a' : Int) := by omega
        have ea1 : (1 : Int) ≤ (a : Int) := by omega
        have ew : IntKind.u64.wrap (a' : Int) = (a' : Int) := u64n (by omega)
        have hab' : a' * y1 + (b + y1) = un := by rw [ha', Nat.add_mul] at hab; omega
        have hD' : D1 ≤ a' := by omega
        have HAB := Lib.hid hab'
        have HO := Lib.hid (HO1.out a' (b + y1) hab' hD')
        obtain ⟨b2, hb2⟩ : ∃ b2, b + y1 = b2 := ⟨_, rfl⟩
        have eb : (b : Int) + (y1 : Int) = (b2 : Int) := by omega
        rw [hb2] at HO HAB
        have ebw : IntKind.u64.wrap (b2 : Int) = (b2 : Int) := u64n (by omega)
        by_cases c2 : 4294967296 ≤ b2
        · have c2' : (4294967296 : Int) ≤ (b2 : Int) := by omega
          have HD := Lib.hid (HO.out c2)
          clear c2 hab hab' ha' hD hbd hb hD' hb2 c1
          go_wp2_with fail
          go_meet
          exact ⟨by rw [HD.out], rfl⟩
        · have c2' : decide ((4294967296 : Int) ≤ (b2 : Int)) = false := decide_eq_false (by omega)
          have HP := Lib.hid (show D1 ≤ a' ∧ a' ≤ 4294967298 ∧ b2 < 4294967296 ∧ a' < a from ⟨hD', by omega, by omega, by omega⟩)
          clear c2 hab hab' ha' hD hbd hb hD' hb2 c1
          go_wp2_with fail
          exact ⟨⟨a', b2, by first | rfl | go_num, by first | rfl | go_num, HAB.out, HP.out.1, HP.out.2.1, HP.out.2.2.1⟩, by have := HP.out; simp [intOf]; omega⟩
      · have c1' : (a : Int) < 4294967296 := by omega
        have hM := wprod (a := a) (b := y0) (by omega) hy0
        have g := HG1.out a b hab
        have g2 := HE1.out a b hab hD
        obtain ⟨M, hMe⟩ : ∃ M, a * y0 = M := ⟨_, rfl⟩
        rw [hMe] at hM g g2
        clear hMe
        have HM := Lib.hid hM
        clear hM
        obtain ⟨S, hS⟩ : ∃ S, 4294967296 * b + l1 = S := ⟨_, rfl⟩
        have eS : (4294967296 : Int) * (b : Int) + (l1 : Int) = (S : Int) := by omega
        have eSw : IntKind.u64.wrap (S : Int) = (S : Int) := u64n (by omega)
        rw [hS] at g g2
        clear hS
        by_cases c3 : S < M
        · have c3' : (S : Int) < (M : Int) := by omega
          have gD := g c3
          clear g g2
          obtain ⟨a', ha'⟩ : ∃ a', a = a' + 1 := ⟨a - 1, by omega⟩
          have ea : (a : Int) - 1 = (a' : Int) := by omega
          have ea1 : (1 : Int) ≤ (a : Int) := by omega
          have ew : IntKind.u64.wrap (a' : Int) = (a' : Int) := u64n (by omega)
          have hab' : a' * y1 + (b + y1) = un := by rw [ha', Nat.add_mul] at hab; omega
          have hD' : D1 ≤ a' := by omega
          have HAB := Lib.hid hab'
          have HO := Lib.hid (HO1.out a' (b + y1) hab' hD')
          obtain ⟨b2, hb2⟩ : ∃ b2, b + y1 = b2 := ⟨_, rfl⟩
          have eb : (b : Int) + (y1 : Int) = (b2 : Int) := by omega
          rw [hb2] at HO HAB
          have ebw : IntKind.u64.wrap (b2 : Int) = (b2 : Int) := u64n (by omega)
          have hM2 := HM.out
          by_cases c2 : 4294967296 ≤ b2
          · have c2' : (4294967296 : Int) ≤ (b2 : Int) := by omega
            have HD := Lib.hid (HO.out c2)
            clear c2 hab hab' ha' hD hbd hb hD' hb2 c1 c3 gD
            go_wp2_with fail
            go_meet
            exact ⟨by rw [HD.out], rfl⟩
          · have c2' : decide ((4294967296 : Int) ≤ (b2 : Int)) = false := decide_eq_false (by omega)
            have HP := Lib.hid (show D1 ≤ a' ∧ a' ≤ 4294967298 ∧ b2 < 4294967296 ∧ a' < a from ⟨hD', by omega, by omega, by omega⟩)
            clear c2 hab hab' ha' hD hbd hb hD' hb2 c1 c3 gD
            go_wp2_with fail
            exact ⟨⟨a', b2, by first | rfl | go_num, by first | rfl | go_num, HAB.out, HP.out.1, HP.out.2.1, HP.out.2.2.1⟩, by have := HP.out; simp [intOf]; omega⟩
        · have c3' : decide (S < M) = false := decide_eq_false (by omega)
          have HD := Lib.hid (g2 (by omega))
          have c1d : decide ((4294967296 : Int) ≤ (a : Int)) = false := decide_eq_false (by omega)
          clear g g2 hab c1 c3 hD hbd hb c1'
          have hM := HM.out
          go_wp2_with fail
          go_meet
          exact ⟨by rw [HD.out], rfl⟩
  case rest =>
    obtain ⟨rfl, rfl⟩ := hcut
    obtain ⟨d1, d2, d3⟩ := W2.out
    obtain ⟨b0, c1, c2⟩ := W3.out
    go_upto_block 2 with fail
    clear d1 d2 d3 b0 c1 c2
    go_cut [18] (fun v wx => v = .int .u64 (D0 : Nat) ∧ w = wx)
    case first =>
      go_wp2_with fail
      go_loop [18, 16] (fun v t => ∃ a b : Nat, v = .int .u64 a ∧ t = .int .u64 b ∧ DivRel y1 R1 D0 a b) (fun v _ => (intOf v).toNat)
      case atStart => exact ⟨q0, r0, rfl, rfl, I0.out, u8, u9, Nat.lt_trans u10 hy1'⟩
      case round =>
        obtain ⟨a, b, rfl, rfl, hab, hD, hbd, hb⟩ := hrel
        have cb : (b : Int) < 4294967296 := by omega
        by_cases c1 : 4294967296 ≤ a
        · have c1' : (4294967296 : Int) ≤ (a : Int) := by omega
          obtain ⟨a', ha'⟩ : ∃ a', a = a' + 1 := ⟨a - 1, by omega⟩
          have ea : (a : Int) - 1 = (a' : Int) := by omega
          have ea1 : (1 : Int) ≤ (a : Int) := by omega
          have ew : IntKind.u64.wrap (a' : Int) = (a' : Int) := u64n (by omega)
          have hab' : a' * y1 + (b + y1) = R1 := by rw [ha', Nat.add_mul] at hab; omega
          have hD' : D0 ≤ a' := by omega
          have HAB := Lib.hid hab'
          have HO := Lib.hid (HO0.out a' (b + y1) hab' hD')
          obtain ⟨b2, hb2⟩ : ∃ b2, b + y1 = b2 := ⟨_, rfl⟩
          have eb : (b : Int) + (y1 : Int) = (b2 : Int) := by omega
          rw [hb2] at HO HAB
          have ebw : IntKind.u64.wrap (b2 : Int) = (b2 : Int) := u64n (by omega)
          by_cases c2 : 4294967296 ≤ b2
          · have c2' : (4294967296 : Int) ≤ (b2 : Int) := by omega
            have HD := Lib.hid (HO.out c2)
            clear c2 hab hab' ha' hD hbd hb hD' hb2 c1
            go_wp2_with fail
            go_meet
            exact ⟨by rw [HD.out], rfl⟩
          · have c2' : decide ((4294967296 : Int) ≤ (b2 : Int)) = false := decide_eq_false (by omega)
            have HP := Lib.hid (show D0 ≤ a' ∧ a' ≤ 4294967298 ∧ b2 < 4294967296 ∧ a' < a from ⟨hD', by omega, by omega, by omega⟩)
            clear c2 hab hab' ha' hD hbd hb hD' hb2 c1
            go_wp2_with fail
            exact ⟨⟨a', b2, by first | rfl | go_num, by first | rfl | go_num, HAB.out, HP.out.1, HP.out.2.1, HP.out.2.2.1⟩, by have := HP.out; simp [intOf]; omega⟩
        · have c1' : (a : Int) < 4294967296 := by omega
          have hM := wprod (a := a) (b := y0) (by omega) hy0
          have g := HG0.out a b hab
          have g2 := HE0.out a b hab hD
          obtain ⟨M, hMe⟩ : ∃ M, a * y0 = M := ⟨_, rfl⟩
          rw [hMe] at hM g g2
          clear hMe
          have HM := Lib.hid hM
          clear hM
          obtain ⟨S, hS⟩ : ∃ S, 4294967296 * b + l0 = S := ⟨_, rfl⟩
          have eS : (4294967296 : Int) * (b : Int) + (l0 : Int) = (S : Int) := by omega
          have eSw : IntKind.u64.wrap (S : Int) = (S : Int) := u64n (by omega)
          rw [hS] at g g2
          clear hS
          by_cases c3 : S < M
          · have c3' : (S : Int) < (M : Int) := by omega
            have gD := g c3
            clear g g2
            obtain ⟨a', ha'⟩ : ∃ a', a = a' + 1 := ⟨a - 1, by omega⟩
            have ea : (a : Int) - 1 = (a' : Int) := by omega
            have ea1 : (1 : Int) ≤ (a : Int) := by omega
            have ew : IntKind.u64.wrap (a' : Int) = (a' : Int) := u64n (by omega)
            have hab' : a' * y1 + (b + y1) = R1 := by rw [ha', Nat.add_mul] at hab; omega
            have hD' : D0 ≤ a' := by omega
            have HAB := Lib.hid hab'
            have HO := Lib.hid (HO0.out a' (b + y1) hab' hD')
            obtain ⟨b2, hb2⟩ : ∃ b2, b + y1 = b2 := ⟨_, rfl⟩
            have eb : (b : Int) + (y1 : Int) = (b2 : Int) := by omega
            rw [hb2] at HO HAB
            have ebw : IntKind.u64.wrap (b2 : Int) = (b2 : Int) := u64n (by omega)
            have hM2 := HM.out
            by_cases c2 : 4294967296 ≤ b2
            · have c2' : (4294967296 : Int) ≤ (b2 : Int) := by omega
              have HD := Lib.hid (HO.out c2)
              clear c2 hab hab' ha' hD hbd hb hD' hb2 c1 c3 gD
              go_wp2_with fail
              go_meet
              exact ⟨by rw [HD.out], rfl⟩
            · have c2' : decide ((4294967296 : Int) ≤ (b2 : Int)) = false := decide_eq_false (by omega)
              have HP := Lib.hid (show D0 ≤ a' ∧ a' ≤ 4294967298 ∧ b2 < 4294967296 ∧ a' < a from ⟨hD', by omega, by omega, by omega⟩)
              clear c2 hab hab' ha' hD hbd hb hD' hb2 c1 c3 gD
              go_wp2_with fail
              exact ⟨⟨a', b2, by first | rfl | go_num, by first | rfl | go_num, HAB.out, HP.out.1, HP.out.2.1, HP.out.2.2.1⟩, by have := HP.out; simp [intOf]; omega⟩
          · have c3' : decide (S < M) = false := decide_eq_false (by omega)
            have HD := Lib.hid (g2 (by omega))
            have c1d : decide ((4294967296 : Int) ≤ (a : Int)) = false := decide_eq_false (by omega)
            clear g g2 hab c1 c3 hD hbd hb c1'
            have hM := HM.out
            go_wp2_with fail
            go_meet
            exact ⟨by rw [HD.out], rfl⟩
    case rest =>
      obtain ⟨rfl, rfl⟩ := hcut
      obtain ⟨e1, e2, e3, e4⟩ := W4.out
      clear F W1 W2 W3 HLZ HG1 HE1 HO1 HG0 HE0 HO0 I1 I0 W4
      go_wp2_with fail
      go_ret2
      exact ⟨by rw [HQ.out.1, HQ.out.2]; rfl, kp_refl _⟩
theorem div64_any (hi lo y : Nat) (h : hi < y) (hy : y < 18446744073709551616) (hlo : lo < 18446744073709551616) (w : World) : Calls Try.prog 24 #[.int .u64 hi, .int .u64 lo, .int .u64 y] w fun e w' => e = .returned (.tuple #[.int .u64 ((hi * 18446744073709551616 + lo) / y : Nat), .int .u64 ((hi * 18446744073709551616 + lo) % y : Nat)]) ∧ Kp w w' := by
  by_cases h0 : hi = 0
  · subst h0
    have := div_zero lo y (by omega) hy hlo w
    simpa using this
  · exact div_some hi lo y h0 h hy hlo w
end Go.Proofs.Ytcmijedhjebpkaa
