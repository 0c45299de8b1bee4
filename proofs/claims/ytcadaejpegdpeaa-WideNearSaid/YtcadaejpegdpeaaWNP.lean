/- Plain facts of rounded quotients. -/
import Derived.Test.YtcadaejpegdpeaaWE
namespace Go.Proofs.Ytcadaejpegdpeaa
open Go.RowKit Go.Proofs.Geo

/-- The quotient's facts, in one sign: s = 1 or -1, s * c > 0. -/
def Bq (a b s : Int) : Int := a * b * s
theorem blw_iff {a b c s y : Int} (hs : s = 1 ∨ s = -1) (hy : s * c = y) (h0 : 0 < y) : blw a b c = decide (Bq a b s < 0) := by
  unfold blw Bq
  rw [← Int.sign_mul]
  generalize a * b = A
  rw [Bool.eq_iff_iff, decide_eq_true_iff, decide_eq_true_iff]
  have e : ∀ x : Int, x.sign < 0 ↔ x < 0 := by
    intro x
    rcases Int.lt_trichotomy x 0 with h | h | h
    · rw [Int.sign_eq_neg_one_of_neg h]; omega
    · subst h; decide
    · rw [Int.sign_eq_one_of_pos h]; omega
  rw [e]
  rcases hs with rfl | rfl
  · have : c = y := by omega
    subst this
    rw [Int.mul_one]
    constructor
    · intro h
      rcases Int.lt_or_le A 0 with k | k
      · exact k
      · have := Int.mul_nonneg k (Int.le_of_lt h0); omega
    · intro h; exact Int.mul_neg_of_neg_of_pos h h0
  · have : c = -y := by omega
    subst this
    constructor
    · intro h
      rcases Int.lt_or_le 0 A with k | k
      · omega
      · have := Int.mul_nonneg (show 0 ≤ -A by omega) (Int.le_of_lt h0)
        rw [Int.neg_mul] at this; rw [Int.mul_neg] at h; omega
    · intro h
      have := Int.mul_pos (show 0 < A by omega) h0
      rw [Int.mul_neg]; omega
theorem bq_abs {a b s : Int} (hs : s = 1 ∨ s = -1) : (Bq a b s).natAbs = (a * b).natAbs := by
  unfold Bq; rcases hs with rfl | rfl <;> simp
theorem c_abs {c s y : Int} (hs : s = 1 ∨ s = -1) (hy : s * c = y) (h0 : 0 < y) : (c.natAbs : Int) = y := by rcases hs with rfl | rfl <;> omega
/-- Floor is the floor. -/
theorem fl_val {a b c s y : Int} (hs : s = 1 ∨ s = -1) (hy : s * c = y) (h0 : 0 < y) (he : (flR a b c).2 = 0) : ∃ r, 0 ≤ r ∧ r < y ∧ Bq a b s = (flR a b c).1 * y + r := by
  have hc : c ≠ 0 := by rintro rfl; simp at hy; omega
  have hb := blw_iff (a := a) (b := b) hs hy h0
  have hn := bq_abs (a := a) (b := b) hs
  have hca := c_abs hs hy h0
  unfold flR divR at *
  rw [if_neg hc] at he ⊢
  rw [hb] at he ⊢
  rw [← hn] at he ⊢
  generalize Bq a b s = B at *
  obtain ⟨Y, hY⟩ : ∃ Y, c.natAbs = Y := ⟨_, rfl⟩
  rw [hY] at he ⊢ hca
  have hd := Nat.div_add_mod B.natAbs Y
  have hm : B.natAbs % Y < Y := Nat.mod_lt _ (by omega)
  generalize B.natAbs / Y = q at *
  generalize B.natAbs % Y = r at *
  by_cases hB : B < 0
  · rw [decide_eq_true hB] at he ⊢
    unfold flUp sgnd at *
    by_cases hr : 0 < r
    · simp only [decide_eq_true hr, Bool.and_self, if_true] at he ⊢
      split at he
      · rename_i k
        rw [if_pos k]
        refine ⟨y - r, by omega, by omega, ?_⟩
        have : ((Y * q : Nat) : Int) = y * q := by rw [← hca]; rfl
        push_cast
        rw [Int.neg_mul, Int.add_mul, Int.mul_comm (q : Int)]
        omega
      · cases he
    · obtain rfl : r = 0 := by omega
      simp only [decide_false, Nat.lt_irrefl, Bool.and_false, Bool.false_eq_true, if_true, if_false, Nat.add_zero] at he ⊢
      split at he
      · rename_i k
        rw [if_pos k]
        refine ⟨0, by omega, by omega, ?_⟩
        have : ((Y * q : Nat) : Int) = y * q := by rw [← hca]; rfl
        rw [Int.neg_mul, Int.mul_comm (q : Int)]
        omega
      · cases he
  · rw [decide_eq_false hB] at he ⊢
    unfold flUp sgnd at *
    simp only [Bool.false_and, Bool.false_eq_true, if_false, Nat.add_zero] at he ⊢
    split at he
    · rename_i k
      rw [if_pos k]
      refine ⟨r, by omega, by omega, ?_⟩
      have : ((Y * q : Nat) : Int) = y * q := by rw [← hca]; rfl
      simp only
      rw [Int.mul_comm (q : Int)]
      omega
    · cases he
/-- Even is near. -/
theorem ev_val {a b c s y : Int} (hs : s = 1 ∨ s = -1) (hy : s * c = y) (h0 : 0 < y) (he : (evR a b c).2 = 0) : ∃ r, Bq a b s = (evR a b c).1 * y + r ∧ 2 * r ≤ y ∧ -(2 * r) ≤ y ∧ (2 * r = y ∨ -(2 * r) = y → (evR a b c).1 % 2 = 0) := by
  have hc : c ≠ 0 := by rintro rfl; simp at hy; omega
  have hb := blw_iff (a := a) (b := b) hs hy h0
  have hn := bq_abs (a := a) (b := b) hs
  have hca := c_abs hs hy h0
  unfold evR divR at *
  rw [if_neg hc] at he ⊢
  rw [hb] at he ⊢
  rw [← hn] at he ⊢
  generalize Bq a b s = B at *
  obtain ⟨Y, hY⟩ : ∃ Y, c.natAbs = Y := ⟨_, rfl⟩
  rw [hY] at he ⊢ hca
  have hd := Nat.div_add_mod B.natAbs Y
  have hm : B.natAbs % Y < Y := Nat.mod_lt _ (by omega)
  generalize B.natAbs / Y = q at *
  generalize B.natAbs % Y = r at *
  have hyq : ((Y * q : Nat) : Int) = y * q := by rw [← hca]; rfl
  -- the size of what is told, m, and the signed rest
  have key : ∃ (m : Nat) (t : Int), (q + if evUp q r Y = true then 1 else 0) = m ∧ ((B.natAbs : Int) = m * y + t ∧ 2 * t ≤ y ∧ -(2 * t) ≤ y ∧ (2 * t = y ∨ -(2 * t) = y → (m : Int) % 2 = 0)) := by
    by_cases h1 : Y < 2 * r
    · have hu : evUp q r Y = true := by unfold evUp; rw [decide_eq_true h1]; rfl
      refine ⟨q + 1, r - y, by rw [hu]; rfl, ?_, by omega, by omega, fun h => by omega⟩
      push_cast
      rw [Int.add_mul, Int.mul_comm (q : Int)]; omega
    · by_cases h2 : 2 * r = Y
      · by_cases h3 : q % 2 = 1
        · have hu : evUp q r Y = true := by unfold evUp; rw [decide_eq_false h1, decide_eq_true h2, decide_eq_true h3]; rfl
          refine ⟨q + 1, r - y, by rw [hu]; rfl, ?_, by omega, by omega, fun h => by omega⟩
          push_cast
          rw [Int.add_mul, Int.mul_comm (q : Int)]; omega
        · have hu : evUp q r Y = false := by unfold evUp; rw [decide_eq_false h1, decide_eq_true h2, decide_eq_false h3]; rfl
          refine ⟨q, r, by rw [hu]; rfl, ?_, by omega, by omega, fun h => by omega⟩
          rw [Int.mul_comm (q : Int)]; omega
      · have hu : evUp q r Y = false := by unfold evUp; rw [decide_eq_false h1, decide_eq_false h2]; rfl
        refine ⟨q, r, by rw [hu]; rfl, ?_, by omega, by omega, fun h => by omega⟩
        rw [Int.mul_comm (q : Int)]; omega
  obtain ⟨m, t, hm2, k1, k2, k3, k4⟩ := key
  simp only at he ⊢
  rw [hm2] at he ⊢
  clear hm2 hd hm hyq hn hb
  by_cases hB : B < 0
  · rw [decide_eq_true hB] at he ⊢
    unfold sgnd at *
    simp only [if_true] at he ⊢
    split at he
    · rename_i k
      rw [if_pos k]
      refine ⟨-t, ?_, by omega, by omega, fun h => by have := k4 (by omega); simp only; omega⟩
      simp only
      rw [Int.neg_mul]; omega
    · cases he
  · rw [decide_eq_false hB] at he ⊢
    unfold sgnd at *
    simp only [Bool.false_eq_true, if_false] at he ⊢
    split at he
    · rename_i k
      rw [if_pos k]
      exact ⟨t, by simp only; omega, k2, k3, k4⟩
    · cases he
theorem sgnd_err (q : Nat) (bl : Bool) : (sgnd q bl).2 = 0 ∨ (sgnd q bl).2 = 5 := by
  unfold sgnd
  split
  · split
    · exact .inl rfl
    · exact .inr rfl
  · split
    · exact .inl rfl
    · exact .inr rfl
theorem sgnd_i64 (q : Nat) (bl : Bool) : I64 (sgnd q bl).1 := by
  unfold sgnd I64
  split
  · split
    · simp only; omega
    · decide
  · split
    · simp only; omega
    · decide
theorem ev_err {a b c : Int} (hc : c ≠ 0) : (evR a b c).2 = 0 ∨ (evR a b c).2 = 5 := by unfold evR divR; rw [if_neg hc]; exact sgnd_err _ _
theorem fl_err {a b c : Int} (hc : c ≠ 0) : (flR a b c).2 = 0 ∨ (flR a b c).2 = 5 := by unfold flR divR; rw [if_neg hc]; exact sgnd_err _ _
theorem fl_i64 (a b c : Int) : I64 (flR a b c).1 := by
  unfold flR divR; split
  · exact ⟨by decide, by decide⟩
  · exact sgnd_i64 _ _
theorem ev_i64 (a b c : Int) : I64 (evR a b c).1 := by
  unfold evR divR; split
  · exact ⟨by decide, by decide⟩
  · exact sgnd_i64 _ _
/-- The signs of differences, in one sign. -/
theorem dif_one {a b c s y f : Int} (hs : s = 1 ∨ s = -1) (hy : s * c = y) : s * dif a b f c = (Bq a b s - f * y).sign := by
  unfold dif Bq
  rcases hs with rfl | rfl
  · rw [Int.one_mul, Int.mul_one, ← hy, Int.one_mul]
  · rw [← hy, Int.neg_one_mul, ← Int.sign_neg]
    congr 1
    rw [Int.neg_one_mul, Int.mul_neg, Int.mul_neg, Int.mul_one]
    omega
theorem dif_fl {a b c s y : Int} (hs : s = 1 ∨ s = -1) (hy : s * c = y) (h0 : 0 < y) (he : (flR a b c).2 = 0) : 0 ≤ s * dif a b (flR a b c).1 c ∧ s * dif a b ((flR a b c).1 + 1) c < 0 := by
  obtain ⟨r, h1, h2, h3⟩ := fl_val hs hy h0 he
  rw [dif_one hs hy, dif_one hs hy, h3]
  constructor
  · have e : (flR a b c).1 * y + r - (flR a b c).1 * y = r := by omega
    rw [e]
    rcases Int.lt_or_eq_of_le h1 with k | k
    · rw [Int.sign_eq_one_of_pos k]; decide
    · rw [← k]; decide
  · have e : (flR a b c).1 * y + r - ((flR a b c).1 + 1) * y = r - y := by rw [Int.add_mul]; omega
    rw [e, Int.sign_eq_neg_one_of_neg (by omega)]; decide
theorem near_fl {B q f y r t : Int} (h0 : 0 < y) (hf : B = f * y + r) (hr : 0 ≤ r) (hr2 : r < y) (hq : B = q * y + t) (h1 : 2 * t ≤ y) (h2 : -(2 * t) ≤ y) : q = f ∨ q = f + 1 := by
  have e : (q - f) * y = r - t := by rw [Int.sub_mul]; omega
  rcases Int.lt_or_le (q - f) 0 with k | k
  · have := Int.mul_le_mul_of_nonneg_right (show q - f ≤ -1 by omega) (Int.le_of_lt h0)
    rw [Int.neg_mul, Int.one_mul] at this; omega
  · rcases Int.lt_or_le (q - f) 2 with k2 | k2
    · omega
    · have := Int.mul_le_mul_of_nonneg_right k2 (Int.le_of_lt h0)
      omega

end Go.Proofs.Ytcadaejpegdpeaa
