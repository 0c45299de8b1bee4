/- Contracts: inside.Counts. -/
import Derived.Test.YtmbfcneabpgcpaaW8
import Derived.Test.YtmbfcneabpgcpaaInsidePlain2
namespace Go.Proofs.Ytmbfcneabpgcpaa
open Go.RowKit Go.Proofs.Geo

theorem cnt_bad {p a b : Pt} (h : (okP p && okP a && okP b) = false) : cnt p a b = false := by
  rw [← Bool.not_eq_true]; intro k
  unfold cnt at k
  split at k <;> (rw [cntU_iff] at k; obtain ⟨h1, h2, h3⟩ := turn_one_ok k.2.2; simp [h1, h2, h3] at h)
theorem cnt_gt {p a b : Pt} (h : b.2 < a.2) : cnt p a b = (decide (b.2 ≤ p.2) && decide (p.2 < a.2) && (turn b a p == 1)) := by
  unfold cnt; rw [if_pos h]; rw [Bool.eq_iff_iff, cntU_iff]; simp [and_assoc]
theorem cnt_le {p a b : Pt} (h : ¬ b.2 < a.2) : cnt p a b = (decide (a.2 ≤ p.2) && decide (p.2 < b.2) && (turn a b p == 1)) := by
  unfold cnt; rw [if_neg h]; rw [Bool.eq_iff_iff, cntU_iff]; simp [and_assoc]
theorem and3_1 {a b c : Bool} (h : a = false) : (a && b && c) = false := by simp [h]
theorem and3_2 {a b c : Bool} (h : b = false) : (a && b && c) = false := by simp [h]
theorem and3_3 {a b c : Bool} (h : c = false) : (a && b && c) = false := by simp [h]

set_option maxHeartbeats 4000000 in
theorem counts_any (px py ax ay bx bY : Int) (w : World) : Calls Try.prog 17 #[pv px py, pv ax ay, pv bx bY] w fun e w' =>
    e = .returned (.bool (cnt (px, py) (ax, ay) (bx, bY))) ∧ Kp w w' := by
  cases h1 : okP (px, py)
  · have H := Lib.hid (cnt_bad (p := (px, py)) (a := (ax, ay)) (b := (bx, bY)) (and3_1 h1))
    go_enter Try.func17, Try.ntmps17
    go_wp2_with (first
      | (go_at_call 11; refine (valid_any _ _ _).mono ?_; rintro e w1 ⟨rfl, hk⟩; obtain ⟨hc, hf, hz⟩ := kp_all hk; have z1 : w.heap.size < w1.heap.size := (by (try simp at hz); omega); have z2 : w.heap.size + 1 < w1.heap.size := (by (try simp at hz); omega); have z3 : w.heap.size + 1 + 1 < w1.heap.size := (by (try simp at hz); omega)))
    go_ret
    exact ⟨ret_bool H.out.symm, by repeat (first | assumption | exact kp_refl _ | apply kp_drew | apply kp_alloc | (refine kp_set ?_ (by (try simp); (try omega)) _) | refine kp_trans ?_ (by assumption))⟩
  ·
    cases h2 : okP (ax, ay)
    · have H := Lib.hid (cnt_bad (p := (px, py)) (a := (ax, ay)) (b := (bx, bY)) (and3_2 h2))
      go_enter Try.func17, Try.ntmps17
      go_wp2_with (first
        | (go_at_call 11; refine (valid_any _ _ _).mono ?_; rintro e w1 ⟨rfl, hk⟩; obtain ⟨hc, hf, hz⟩ := kp_all hk; have z1 : w.heap.size < w1.heap.size := (by (try simp at hz); omega); have z2 : w.heap.size + 1 < w1.heap.size := (by (try simp at hz); omega); have z3 : w.heap.size + 1 + 1 < w1.heap.size := (by (try simp at hz); omega)))
      go_ret
      exact ⟨ret_bool H.out.symm, by repeat (first | assumption | exact kp_refl _ | apply kp_drew | apply kp_alloc | (refine kp_set ?_ (by (try simp); (try omega)) _) | refine kp_trans ?_ (by assumption))⟩
    ·
      cases h3 : okP (bx, bY)
      · have H := Lib.hid (cnt_bad (p := (px, py)) (a := (ax, ay)) (b := (bx, bY)) (and3_3 h3))
        go_enter Try.func17, Try.ntmps17
        go_wp2_with (first
          | (go_at_call 11; refine (valid_any _ _ _).mono ?_; rintro e w1 ⟨rfl, hk⟩; obtain ⟨hc, hf, hz⟩ := kp_all hk; have z1 : w.heap.size < w1.heap.size := (by (try simp at hz); omega); have z2 : w.heap.size + 1 < w1.heap.size := (by (try simp at hz); omega); have z3 : w.heap.size + 1 + 1 < w1.heap.size := (by (try simp at hz); omega)))
        go_ret
        exact ⟨ret_bool H.out.symm, by repeat (first | assumption | exact kp_refl _ | apply kp_drew | apply kp_alloc | (refine kp_set ?_ (by (try simp); (try omega)) _) | refine kp_trans ?_ (by assumption))⟩
      ·
        by_cases g : bY < ay
        · have H := Lib.hid (cnt_gt (p := (px, py)) (a := (ax, ay)) (b := (bx, bY)) g)
          by_cases k1 : bY ≤ py
          · by_cases k2 : py < ay
            · have e1 : decide (bY ≤ py) = true := decide_eq_true k1
              have e2 : decide (py < ay) = true := decide_eq_true k2
              have He := Lib.hid (And.intro e1 e2); clear e1 e2
              go_enter Try.func17, Try.ntmps17
              go_wp2_with (first
                | (go_at_call 11; refine (valid_any _ _ _).mono ?_; rintro e w1 ⟨rfl, hk⟩; obtain ⟨hc, hf, hz⟩ := kp_all hk; have z1 : w.heap.size < w1.heap.size := (by (try simp at hz); omega); have z2 : w.heap.size + 1 < w1.heap.size := (by (try simp at hz); omega); have z3 : w.heap.size + 1 + 1 < w1.heap.size := (by (try simp at hz); omega))
                | (go_at_call 12; refine (turn_any _ _ _ _ _ _ _).mono ?_; rintro e w' ⟨rfl, hkt⟩))
              go_ret
              exact ⟨ret_bool (by rw [H.out]; simp only [He.out.1, He.out.2, Bool.true_and]), by repeat (first | assumption | exact kp_refl _ | apply kp_drew | apply kp_alloc | (refine kp_set ?_ (by (try simp); (try omega)) _) | refine kp_trans ?_ (by assumption))⟩
            · have e2 : decide (py < ay) = false := decide_eq_false k2
              have He := Lib.hid e2; clear e2
              go_enter Try.func17, Try.ntmps17
              go_wp2_with (first
                | (go_at_call 11; refine (valid_any _ _ _).mono ?_; rintro e w1 ⟨rfl, hk⟩; obtain ⟨hc, hf, hz⟩ := kp_all hk; have z1 : w.heap.size < w1.heap.size := (by (try simp at hz); omega); have z2 : w.heap.size + 1 < w1.heap.size := (by (try simp at hz); omega); have z3 : w.heap.size + 1 + 1 < w1.heap.size := (by (try simp at hz); omega))
                | (go_at_call 12; refine (turn_any _ _ _ _ _ _ _).mono ?_; rintro e w' ⟨rfl, hkt⟩))
              go_ret
              exact ⟨ret_bool (by rw [H.out]; simp only [He.out, Bool.and_false, Bool.false_and]), by repeat (first | assumption | exact kp_refl _ | apply kp_drew | apply kp_alloc | (refine kp_set ?_ (by (try simp); (try omega)) _) | refine kp_trans ?_ (by assumption))⟩
          · have e1 : decide (bY ≤ py) = false := decide_eq_false k1
            have He := Lib.hid e1; clear e1
            go_enter Try.func17, Try.ntmps17
            go_wp2_with (first
              | (go_at_call 11; refine (valid_any _ _ _).mono ?_; rintro e w1 ⟨rfl, hk⟩; obtain ⟨hc, hf, hz⟩ := kp_all hk; have z1 : w.heap.size < w1.heap.size := (by (try simp at hz); omega); have z2 : w.heap.size + 1 < w1.heap.size := (by (try simp at hz); omega); have z3 : w.heap.size + 1 + 1 < w1.heap.size := (by (try simp at hz); omega))
              | (go_at_call 12; refine (turn_any _ _ _ _ _ _ _).mono ?_; rintro e w' ⟨rfl, hkt⟩))
            go_ret
            exact ⟨ret_bool (by rw [H.out]; simp only [He.out, Bool.false_and]), by repeat (first | assumption | exact kp_refl _ | apply kp_drew | apply kp_alloc | (refine kp_set ?_ (by (try simp); (try omega)) _) | refine kp_trans ?_ (by assumption))⟩
        · have H := Lib.hid (cnt_le (p := (px, py)) (a := (ax, ay)) (b := (bx, bY)) g)
          by_cases k1 : ay ≤ py
          · by_cases k2 : py < bY
            · have e1 : decide (ay ≤ py) = true := decide_eq_true k1
              have e2 : decide (py < bY) = true := decide_eq_true k2
              have He := Lib.hid (And.intro e1 e2); clear e1 e2
              go_enter Try.func17, Try.ntmps17
              go_wp2_with (first
                | (go_at_call 11; refine (valid_any _ _ _).mono ?_; rintro e w1 ⟨rfl, hk⟩; obtain ⟨hc, hf, hz⟩ := kp_all hk; have z1 : w.heap.size < w1.heap.size := (by (try simp at hz); omega); have z2 : w.heap.size + 1 < w1.heap.size := (by (try simp at hz); omega); have z3 : w.heap.size + 1 + 1 < w1.heap.size := (by (try simp at hz); omega))
                | (go_at_call 12; refine (turn_any _ _ _ _ _ _ _).mono ?_; rintro e w' ⟨rfl, hkt⟩))
              go_ret
              exact ⟨ret_bool (by rw [H.out]; simp only [He.out.1, He.out.2, Bool.true_and]), by repeat (first | assumption | exact kp_refl _ | apply kp_drew | apply kp_alloc | (refine kp_set ?_ (by (try simp); (try omega)) _) | refine kp_trans ?_ (by assumption))⟩
            · have e2 : decide (py < bY) = false := decide_eq_false k2
              have He := Lib.hid e2; clear e2
              go_enter Try.func17, Try.ntmps17
              go_wp2_with (first
                | (go_at_call 11; refine (valid_any _ _ _).mono ?_; rintro e w1 ⟨rfl, hk⟩; obtain ⟨hc, hf, hz⟩ := kp_all hk; have z1 : w.heap.size < w1.heap.size := (by (try simp at hz); omega); have z2 : w.heap.size + 1 < w1.heap.size := (by (try simp at hz); omega); have z3 : w.heap.size + 1 + 1 < w1.heap.size := (by (try simp at hz); omega))
                | (go_at_call 12; refine (turn_any _ _ _ _ _ _ _).mono ?_; rintro e w' ⟨rfl, hkt⟩))
              go_ret
              exact ⟨ret_bool (by rw [H.out]; simp only [He.out, Bool.and_false, Bool.false_and]), by repeat (first | assumption | exact kp_refl _ | apply kp_drew | apply kp_alloc | (refine kp_set ?_ (by (try simp); (try omega)) _) | refine kp_trans ?_ (by assumption))⟩
          · have e1 : decide (ay ≤ py) = false := decide_eq_false k1
            have He := Lib.hid e1; clear e1
            go_enter Try.func17, Try.ntmps17
            go_wp2_with (first
              | (go_at_call 11; refine (valid_any _ _ _).mono ?_; rintro e w1 ⟨rfl, hk⟩; obtain ⟨hc, hf, hz⟩ := kp_all hk; have z1 : w.heap.size < w1.heap.size := (by (try simp at hz); omega); have z2 : w.heap.size + 1 < w1.heap.size := (by (try simp at hz); omega); have z3 : w.heap.size + 1 + 1 < w1.heap.size := (by (try simp at hz); omega))
              | (go_at_call 12; refine (turn_any _ _ _ _ _ _ _).mono ?_; rintro e w' ⟨rfl, hkt⟩))
            go_ret
            exact ⟨ret_bool (by rw [H.out]; simp only [He.out, Bool.false_and]), by repeat (first | assumption | exact kp_refl _ | apply kp_drew | apply kp_alloc | (refine kp_set ?_ (by (try simp); (try omega)) _) | refine kp_trans ?_ (by assumption))⟩
end Go.Proofs.Ytmbfcneabpgcpaa
