/- Contracts: the sign of a difference of two products. -/
import Derived.Test.YtcmijedhjebpkaaW4
namespace Go.Proofs.Ytcmijedhjebpkaa
open Go.RowKit Go.Proofs.Geo

def magI (a b c d : Int) : Int := orI (cmpI (mulH a b) (mulH c d)) (cmpI (mulL a b) (mulL c d))
theorem orI_cmp {h i l m : Int} (hl : 0 ≤ l) (hl' : l < 18446744073709551616) (hm : 0 ≤ m) (hm' : m < 18446744073709551616) :
    orI (cmpI h i) (cmpI l m) = cmpI (h * 18446744073709551616 + l) (i * 18446744073709551616 + m) := by
  unfold orI cmpI; (repeat' split) <;> omega
theorem magI_eq (a b c d : Int) : magI a b c d = cmpI ((a.natAbs * b.natAbs : Nat) : Int) ((c.natAbs * d.natAbs : Nat) : Int) := by
  unfold magI
  rw [orI_cmp (by unfold mulL; omega) (by unfold mulL; omega) (by unfold mulL; omega) (by unfold mulL; omega)]
  unfold mulH mulL
  congr 1 <;> omega
theorem cmpI_sign (a b : Int) : cmpI a b = (a - b).sign := by
  rcases Int.lt_trichotomy a b with h | h | h
  · rw [cmpI_lt h, Int.sign_eq_neg_one_of_neg (by omega)]
  · rw [cmpI_eq h, h]; simp
  · rw [cmpI_gt h, Int.sign_eq_one_of_pos (by omega)]
theorem cmpI_zero (a : Int) : cmpI a 0 = a.sign := by rw [cmpI_sign]; simp
theorem mulS_eq (a b : Int) : mulS a b = (a * b).sign := by unfold mulS; rw [cmpI_zero, cmpI_zero, Int.sign_mul]
theorem mul_abs (a b : Int) : a * b = mulS a b * ((a.natAbs * b.natAbs : Nat) : Int) := by
  rw [mulS_eq, ← Int.natAbs_mul, Int.sign_mul_natAbs]
/-- The sign of the difference of two products. -/
def dif (a b c d : Int) : Int := (a * b - c * d).sign
theorem dif_ne {a b c d : Int} (h : mulS a b ≠ mulS c d) : cmpI (mulS a b) (mulS c d) = dif a b c d := by
  unfold dif
  rw [mulS_eq, mulS_eq] at *
  generalize a * b = x at *
  generalize c * d = y at *
  rcases Int.lt_trichotomy x 0 with h1 | h1 | h1 <;> rcases Int.lt_trichotomy y 0 with h2 | h2 | h2
  · rw [Int.sign_eq_neg_one_of_neg h1, Int.sign_eq_neg_one_of_neg h2] at h; omega
  · subst h2; rw [Int.sign_eq_neg_one_of_neg h1, Int.sign_eq_neg_one_of_neg (a := x - 0) (by omega)]; decide
  · rw [Int.sign_eq_neg_one_of_neg h1, Int.sign_eq_one_of_pos h2, Int.sign_eq_neg_one_of_neg (a := x - y) (by omega)]; decide
  · subst h1; rw [Int.sign_eq_neg_one_of_neg h2, Int.sign_eq_one_of_pos (a := 0 - y) (by omega)]; decide
  · subst h1; subst h2; omega
  · subst h1; rw [Int.sign_eq_one_of_pos h2, Int.sign_eq_neg_one_of_neg (a := 0 - y) (by omega)]; decide
  · rw [Int.sign_eq_one_of_pos h1, Int.sign_eq_neg_one_of_neg h2, Int.sign_eq_one_of_pos (a := x - y) (by omega)]; decide
  · subst h2; rw [Int.sign_eq_one_of_pos h1, Int.sign_eq_one_of_pos (a := x - 0) (by omega)]; decide
  · rw [Int.sign_eq_one_of_pos h1, Int.sign_eq_one_of_pos h2] at h; omega
theorem dif_eq {a b c d : Int} (h : mulS a b = mulS c d) : mulS a b * magI a b c d = dif a b c d := by
  rw [magI_eq]; unfold dif
  have e1 := mul_abs a b
  have e2 := mul_abs c d
  rw [← h] at e2
  rw [e1, e2, cmpI_sign, ← Int.mul_sub, Int.sign_mul]
  congr 1
  have := sign_bd (a * b)
  rw [mulS_eq]
  have k : (a * b).sign = -1 ∨ (a * b).sign = 0 ∨ (a * b).sign = 1 := by omega
  rcases k with k | k | k <;> rw [k] <;> decide
theorem magI_wrap (a b c d : Int) : IntKind.i64.wrap (mulS a b * magI a b c d) = mulS a b * magI a b c d := by
  have h1 : -1 ≤ mulS a b ∧ mulS a b ≤ 1 := by rw [mulS_eq]; exact sign_bd _
  have h2 : -1 ≤ magI a b c d ∧ magI a b c d ≤ 1 := by rw [magI_eq]; exact cmpI_bd _ _
  apply IntWalk.i64_in
  have e1 : mulS a b = -1 ∨ mulS a b = 0 ∨ mulS a b = 1 := by omega
  rcases e1 with e | e | e <;> rw [e] <;> omega

end Go.Proofs.Ytcmijedhjebpkaa
