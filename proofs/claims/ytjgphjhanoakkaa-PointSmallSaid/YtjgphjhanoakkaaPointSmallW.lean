/- The walk of PointSmall. -/
import Derived.Test.YtjgphjhanoakkaaW7
namespace Go.Proofs.Ytjgphjhanoakkaa
open Go.RowKit Go.Proofs.Geo

/-- The first k of six numbers are small. -/
def SmallTo (k : Nat) (a b c d e f : Int) : Prop :=
  (1 ≤ k → -1048576 ≤ a ∧ a ≤ 1048576) ∧ (2 ≤ k → -1048576 ≤ b ∧ b ≤ 1048576) ∧ (3 ≤ k → -1048576 ≤ c ∧ c ≤ 1048576) ∧
  (4 ≤ k → -1048576 ≤ d ∧ d ≤ 1048576) ∧ (5 ≤ k → -1048576 ≤ e ∧ e ≤ 1048576) ∧ (6 ≤ k → -1048576 ≤ f ∧ f ≤ 1048576)

theorem prod_bd {x y : Int} (h1 : -2097152 ≤ x) (h2 : x ≤ 2097152) (h3 : -2097152 ≤ y) (h4 : y ≤ 2097152) : -4398046511104 ≤ x * y ∧ x * y ≤ 4398046511104 := by
  have k : (x * y).natAbs ≤ 2097152 * 2097152 := by
    rw [Int.natAbs_mul]; exact Nat.mul_le_mul (by omega) (by omega)
  omega

theorem tri (a : Int) : a < -1048576 ∨ 1048576 < a ∨ (-1048576 ≤ a ∧ a ≤ 1048576) := by omega
theorem turn_small {ax ay bx bY cx cy : Int} (a1 : -1048576 ≤ ax) (a2 : ax ≤ 1048576) (a3 : -1048576 ≤ ay) (a4 : ay ≤ 1048576) (b1 : -1048576 ≤ bx) (b2 : bx ≤ 1048576) (b3 : -1048576 ≤ bY) (b4 : bY ≤ 1048576)
    (c1 : -1048576 ≤ cx) (c2 : cx ≤ 1048576) (c3 : -1048576 ≤ cy) (c4 : cy ≤ 1048576) : turn (ax, ay) (bx, bY) (cx, cy) = ((bx - ax) * (cy - ay) - (bY - ay) * (cx - ax)).sign := by
  rw [turn_ok (okP_iff.2 ⟨⟨by simp only; omega, by simp only; omega⟩, by simp only; omega, by simp only; omega⟩) (okP_iff.2 ⟨⟨by simp only; omega, by simp only; omega⟩, by simp only; omega, by simp only; omega⟩) (okP_iff.2 ⟨⟨by simp only; omega, by simp only; omega⟩, by simp only; omega, by simp only; omega⟩)]; rfl

set_option maxHeartbeats 4000000 in
theorem pointSmall_walk (ax ay bx bY cx cy : Int) (w : World) : Calls Try.prog 3 #[pv ax ay, pv bx bY, pv cx cy] w fun e w' => e = .returned (.bool true) ∧ Kp w w' := by
  go_enter Try.func3, Try.ntmps3
  go_wp2_with (go_at_call 11; refine (awake07_any _).mono ?_; rintro e w1 ⟨rfl, hk1⟩; obtain ⟨hc1, hf1, hz1⟩ := kp_all hk1; have hz : w.heap.size + 1 + 1 < w1.heap.size := (by simp only [World.size_alloc] at hz1; omega); have hy : w.heap.size + 1 < w1.heap.size := (by omega); have hx : w.heap.size < w1.heap.size := (by omega); clear hz1)
  go_loop [9] (fun i => ∃ k : Nat, k ≤ 6 ∧ i = .int .i64 k ∧ SmallTo k ax ay bx bY cx cy) (fun i => 6 - (intOf i).toNat)
  case atStart => exact ⟨0, by omega, rfl, by unfold SmallTo; omega⟩
  case round =>
    obtain ⟨k, hk, rfl, hS⟩ := hrel
    have hk' : k = 0 ∨ k = 1 ∨ k = 2 ∨ k = 3 ∨ k = 4 ∨ k = 5 ∨ k = 6 := by omega
    rcases hk' with rfl | rfl | rfl | rfl | rfl | rfl | rfl
    · rcases tri ax with h | h | ⟨h, h'⟩
      · go_wp2
        go_ret
        exact ⟨rfl, kp_alloc (kp_trans (by repeat (first | exact kp_refl _ | apply kp_alloc)) hk1) _⟩
      · go_wp2
        go_ret
        exact ⟨rfl, kp_alloc (kp_trans (by repeat (first | exact kp_refl _ | apply kp_alloc)) hk1) _⟩
      · go_wp2
        go_round
        case rel => exact ⟨1, by omega, rfl, by unfold SmallTo at *; omega⟩
        case measure => simp [intOf]
    · rcases tri ay with h | h | ⟨h, h'⟩
      · go_wp2
        go_ret
        exact ⟨rfl, kp_alloc (kp_trans (by repeat (first | exact kp_refl _ | apply kp_alloc)) hk1) _⟩
      · go_wp2
        go_ret
        exact ⟨rfl, kp_alloc (kp_trans (by repeat (first | exact kp_refl _ | apply kp_alloc)) hk1) _⟩
      · go_wp2
        go_round
        case rel => exact ⟨2, by omega, rfl, by unfold SmallTo at *; omega⟩
        case measure => simp [intOf]
    · rcases tri bx with h | h | ⟨h, h'⟩
      · go_wp2
        go_ret
        exact ⟨rfl, kp_alloc (kp_trans (by repeat (first | exact kp_refl _ | apply kp_alloc)) hk1) _⟩
      · go_wp2
        go_ret
        exact ⟨rfl, kp_alloc (kp_trans (by repeat (first | exact kp_refl _ | apply kp_alloc)) hk1) _⟩
      · go_wp2
        go_round
        case rel => exact ⟨3, by omega, rfl, by unfold SmallTo at *; omega⟩
        case measure => simp [intOf]
    · rcases tri bY with h | h | ⟨h, h'⟩
      · go_wp2
        go_ret
        exact ⟨rfl, kp_alloc (kp_trans (by repeat (first | exact kp_refl _ | apply kp_alloc)) hk1) _⟩
      · go_wp2
        go_ret
        exact ⟨rfl, kp_alloc (kp_trans (by repeat (first | exact kp_refl _ | apply kp_alloc)) hk1) _⟩
      · go_wp2
        go_round
        case rel => exact ⟨4, by omega, rfl, by unfold SmallTo at *; omega⟩
        case measure => simp [intOf]
    · rcases tri cx with h | h | ⟨h, h'⟩
      · go_wp2
        go_ret
        exact ⟨rfl, kp_alloc (kp_trans (by repeat (first | exact kp_refl _ | apply kp_alloc)) hk1) _⟩
      · go_wp2
        go_ret
        exact ⟨rfl, kp_alloc (kp_trans (by repeat (first | exact kp_refl _ | apply kp_alloc)) hk1) _⟩
      · go_wp2
        go_round
        case rel => exact ⟨5, by omega, rfl, by unfold SmallTo at *; omega⟩
        case measure => simp [intOf]
    · rcases tri cy with h | h | ⟨h, h'⟩
      · go_wp2
        go_ret
        exact ⟨rfl, kp_alloc (kp_trans (by repeat (first | exact kp_refl _ | apply kp_alloc)) hk1) _⟩
      · go_wp2
        go_ret
        exact ⟨rfl, kp_alloc (kp_trans (by repeat (first | exact kp_refl _ | apply kp_alloc)) hk1) _⟩
      · go_wp2
        go_round
        case rel => exact ⟨6, by omega, rfl, by unfold SmallTo at *; omega⟩
        case measure => simp [intOf]
    · unfold SmallTo at hS
      obtain ⟨s1, s2, s3, s4, s5, s6⟩ := hS
      obtain ⟨a1, a2⟩ := s1 (by omega)
      obtain ⟨a3, a4⟩ := s2 (by omega)
      obtain ⟨b1, b2⟩ := s3 (by omega)
      obtain ⟨b3, b4⟩ := s4 (by omega)
      obtain ⟨c1, c2⟩ := s5 (by omega)
      obtain ⟨c3, c4⟩ := s6 (by omega)
      clear s1 s2 s3 s4 s5 s6
      have hP := prod_bd (x := bx - ax) (y := cy - ay) (by omega) (by omega) (by omega) (by omega)
      have hQ := prod_bd (x := bY - ay) (y := cx - ax) (by omega) (by omega) (by omega) (by omega)
      have hT := turn_small a1 a2 a3 a4 b1 b2 b3 b4 c1 c2 c3 c4
      have eP := IntWalk.i64_in ((bx - ax) * (cy - ay)) (by omega)
      have eQ := IntWalk.i64_in ((bY - ay) * (cx - ax)) (by omega)
      obtain ⟨P, hPe⟩ : ∃ P, (bx - ax) * (cy - ay) = P := ⟨_, rfl⟩
      obtain ⟨Q, hQe⟩ : ∃ Q, (bY - ay) * (cx - ax) = Q := ⟨_, rfl⟩
      rw [hPe] at hP hT eP
      rw [hQe] at hQ hT eQ
      have eP1 : IntKind.i64.wrap ((bx - ax) * (cy - ay)) = P := by rw [hPe]; exact eP
      have eQ1 : IntKind.i64.wrap ((bY - ay) * (cx - ax)) = Q := by rw [hQe]; exact eQ
      have eP2 : wrap64 ((bx - ax) * (cy - ay)) = P := by rw [← IntWalk.i64_left]; exact eP1
      have eQ2 : wrap64 ((bY - ay) * (cx - ax)) = Q := by rw [← IntWalk.i64_left]; exact eQ1
      obtain ⟨hP1, hP2⟩ := hP
      obtain ⟨hQ1, hQ2⟩ := hQ
      clear eP eQ hPe hQe
      rcases Int.lt_trichotomy P Q with h | h | h
      · have hT' : turn (ax, ay) (bx, bY) (cx, cy) = -1 := by rw [hT]; exact Int.sign_eq_neg_one_of_neg (by omega)
        clear hT
        go_wp2_with (go_at_call 12; refine (turn_any _ _ _ _ _ _ _).mono ?_; rintro e w2 ⟨rfl, hk2⟩)
        go_ret
        exact ⟨rfl, kp_trans (kp_alloc (kp_trans (by repeat (first | exact kp_refl _ | apply kp_alloc)) hk1) _) hk2⟩
      · subst h
        have hT' : turn (ax, ay) (bx, bY) (cx, cy) = 0 := by rw [hT]; simp
        clear hT
        go_wp2_with (go_at_call 12; refine (turn_any _ _ _ _ _ _ _).mono ?_; rintro e w2 ⟨rfl, hk2⟩)
        go_ret
        exact ⟨rfl, kp_trans (kp_alloc (kp_trans (by repeat (first | exact kp_refl _ | apply kp_alloc)) hk1) _) hk2⟩
      · have hT' : turn (ax, ay) (bx, bY) (cx, cy) = 1 := by rw [hT]; exact Int.sign_eq_one_of_pos (by omega)
        clear hT
        go_wp2_with (go_at_call 12; refine (turn_any _ _ _ _ _ _ _).mono ?_; rintro e w2 ⟨rfl, hk2⟩)
        go_ret
        exact ⟨rfl, kp_trans (kp_alloc (kp_trans (by repeat (first | exact kp_refl _ | apply kp_alloc)) hk1) _) hk2⟩
end Go.Proofs.Ytjgphjhanoakkaa
