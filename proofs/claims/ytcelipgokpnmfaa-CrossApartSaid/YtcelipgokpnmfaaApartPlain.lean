/- Plain law of segments that lie apart; no program in sight. -/
import Derived.Test.YtcelipgokpnmfaaCrossPlain3
import Derived.Test.YtcelipgokpnmfaaBndPlain
namespace Go.Proofs.Geo

/-- Have two boxes a point? -/
def meetX (a b : Int × Int × Int × Int) : Bool := decide (max a.1 b.1 < min a.2.2.1 b.2.2.1) && decide (max a.2.1 b.2.1 < min a.2.2.2 b.2.2.2)
theorem bnd_two {a b : Pt} (ha : okP a = true) (hb : okP b = true) : bndB [a, b] = (min a.1 b.1, min a.2 b.2, max a.1 b.1 + 1, max a.2 b.2 + 1) := by
  rw [bndB_ok (by simp [ha, hb])]
  simp [mnC, mxC, Int.min_self, Int.max_self]
theorem apart_law {a b c d : Pt} (h1 : may a b = true) (h2 : may c d = true) :
    bndOk [a, b] = true ∧ bndOk [c, d] = true ∧ (meetX (bndB [a, b]) (bndB [c, d]) = false → meets a b c d = 0) ∧ (0 < turn a b c * turn a b d ∨ 0 < turn c d a * turn c d b → meets a b c d = 0) ∧
      (meets a b c d = 2 ↔ turn a b c * turn a b d < 0 ∧ turn c d a * turn c d b < 0) := by
  obtain ⟨ha, hb, hab⟩ := may_iff.1 h1
  obtain ⟨hc, hd, hcd⟩ := may_iff.1 h2
  have z : ∀ {p q r s : Pt}, may p q = true → may r s = true → ¬ Mt p q r s → meets p q r s = 0 := fun g1 g2 h => Classical.byContradiction fun k => h ((meets_ne g1 g2).1 k)
  refine ⟨by simp [bndOk, ha, hb], by simp [bndOk, hc, hd], fun h => z h1 h2 (not_Mt_of_boxes fun ⟨k1, k2⟩ => ?_), ?_, ?_⟩
  · rw [bnd_two ha hb, bnd_two hc hd, ← Bool.not_eq_true] at h
    simp only [meetX, Bool.and_eq_true, decide_eq_true_eq] at h
    omega
  · rw [turn_ok ha hb hc, turn_ok ha hb hd, turn_ok hc hd ha, turn_ok hc hd hb, sign_mul_pos, sign_mul_pos]
    rintro (h | h)
    · exact z h1 h2 (not_Mt_of_side h1 h2 h)
    · rw [← meets_swap]; exact z h2 h1 (not_Mt_of_side h2 h1 h)
  · rw [meets_cross h1 h2, turn_ok ha hb hc, turn_ok ha hb hd, turn_ok hc hd ha, turn_ok hc hd hb, sign_mul_neg, sign_mul_neg]
    exact Iff.rfl
theorem turn_mul_bd (a b c d e g : Pt) : -1 ≤ turn a b c * turn d e g ∧ turn a b c * turn d e g ≤ 1 := by
  have h1 := turn_bd a b c
  have h2 := turn_bd d e g
  have e1 : turn a b c = -1 ∨ turn a b c = 0 ∨ turn a b c = 1 := by omega
  rcases e1 with e | e | e <;> rw [e] <;> omega
end Go.Proofs.Geo
