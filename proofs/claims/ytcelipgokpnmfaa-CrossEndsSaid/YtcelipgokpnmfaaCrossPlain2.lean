/- Plain geometry of two segments, further: touching, being over one another, crossing; a point that cuts a segment. -/
import Derived.Test.YtcelipgokpnmfaaCrossPlain
namespace Go.Proofs.Geo

/-- A point on a segment, told by proportion. -/
theorem onS_param {p a b : Pt} (h : onS p a b = true) (hab : a ≠ b) : ∃ D k : Int, 0 < D ∧ 0 ≤ k ∧ k ≤ D ∧ D * (p.1 - a.1) = k * (b.1 - a.1) ∧ D * (p.2 - a.2) = k * (b.2 - a.2) := by
  obtain ⟨_, _, _, h1, h2, h3⟩ := onS_iff.1 h
  rw [btw_iff] at h1 h2
  have hd : (b.1 - a.1) * (p.2 - a.2) = (b.2 - a.2) * (p.1 - a.1) := by unfold det at h3; omega
  have hne : a.1 ≠ b.1 ∨ a.2 ≠ b.2 := by
    by_cases e : a.1 = b.1
    · right; intro e2; exact hab (Prod.ext e e2)
    · left; exact e
  rcases hne with hx | hx
  · rcases Int.lt_or_gt_of_ne hx with hl | hl
    · exact ⟨b.1 - a.1, p.1 - a.1, by omega, by omega, by omega, Int.mul_comm _ _, by rw [hd, Int.mul_comm]⟩
    · refine ⟨a.1 - b.1, a.1 - p.1, by omega, by omega, by omega, ?_, ?_⟩ <;> grind
  · rcases Int.lt_or_gt_of_ne hx with hl | hl
    · refine ⟨b.2 - a.2, p.2 - a.2, by omega, by omega, by omega, ?_, ?_⟩ <;> grind
    · refine ⟨a.2 - b.2, a.2 - p.2, by omega, by omega, by omega, ?_, ?_⟩ <;> grind

/-- Strictly between, told by proportion. -/
theorem onS_param' {p a b : Pt} (h : onS p a b = true) (hab : a ≠ b) (ha : p ≠ a) (hb : p ≠ b) :
    ∃ D k : Int, 0 < D ∧ 0 < k ∧ k < D ∧ D * (p.1 - a.1) = k * (b.1 - a.1) ∧ D * (p.2 - a.2) = k * (b.2 - a.2) := by
  obtain ⟨D, k, h1, h2, h3, h4, h5⟩ := onS_param h hab
  refine ⟨D, k, h1, ?_, ?_, h4, h5⟩
  · rcases Int.lt_or_eq_of_le h2 with h | h
    · exact h
    · exfalso; subst h
      rw [Int.zero_mul] at h4 h5
      have e1 := (Int.mul_eq_zero.1 h4).resolve_left (by omega)
      have e2 := (Int.mul_eq_zero.1 h5).resolve_left (by omega)
      exact ha (Prod.ext (by omega) (by omega))
  · rcases Int.lt_or_eq_of_le h3 with h | h
    · exact h
    · exfalso; subst h
      have e1 := Int.eq_of_mul_eq_mul_left (by omega) h4
      have e2 := Int.eq_of_mul_eq_mul_left (by omega) h5
      exact hb (Prod.ext (by omega) (by omega))

/-- What is linear goes in proportion. -/
theorem det_param {p a b : Pt} {D k : Int} (h4 : D * (p.1 - a.1) = k * (b.1 - a.1)) (h5 : D * (p.2 - a.2) = k * (b.2 - a.2)) (c d : Pt) :
    D * det c d p = (D - k) * det c d a + k * det c d b := by unfold det; grind
theorem det_param_l {p a b : Pt} {D k : Int} (h4 : D * (p.1 - a.1) = k * (b.1 - a.1)) (h5 : D * (p.2 - a.2) = k * (b.2 - a.2)) (x : Pt) :
    D * det a p x = k * det a b x := by unfold det; grind
theorem det_param_r {p a b : Pt} {D k : Int} (h4 : D * (p.1 - a.1) = k * (b.1 - a.1)) (h5 : D * (p.2 - a.2) = k * (b.2 - a.2)) (x : Pt) :
    D * det p b x = (D - k) * det a b x := by unfold det; grind

theorem sign_scale {D k x y : Int} (hD : 0 < D) (hk : 0 < k) (h : D * x = k * y) : x.sign = y.sign := by
  have := congrArg Int.sign h
  rw [Int.sign_mul, Int.sign_mul, Int.sign_eq_one_of_pos hD, Int.sign_eq_one_of_pos hk, Int.one_mul, Int.one_mul] at this
  exact this

theorem mul_neg_iff {x y : Int} : x * y < 0 ↔ (x < 0 ∧ 0 < y) ∨ (0 < x ∧ y < 0) := by
  rcases Int.lt_trichotomy x 0 with h | h | h <;> rcases Int.lt_trichotomy y 0 with k | k | k
  · have := Int.mul_pos_of_neg_of_neg h k; omega
  · subst k; simp
  · have := Int.mul_neg_of_neg_of_pos h k; omega
  · subst h; simp
  · subst h; simp
  · subst h; simp
  · have := Int.mul_neg_of_pos_of_neg h k; omega
  · subst k; simp
  · have := Int.mul_pos h k; omega
theorem mul_pos_iff' {x y : Int} : 0 < x * y ↔ (x < 0 ∧ y < 0) ∨ (0 < x ∧ 0 < y) := by
  rcases Int.lt_trichotomy x 0 with h | h | h <;> rcases Int.lt_trichotomy y 0 with k | k | k
  · have := Int.mul_pos_of_neg_of_neg h k; omega
  · subst k; simp
  · have := Int.mul_neg_of_neg_of_pos h k; omega
  · subst h; simp
  · subst h; simp
  · subst h; simp
  · have := Int.mul_neg_of_pos_of_neg h k; omega
  · subst k; simp
  · have := Int.mul_pos h k; omega
theorem sign_mul_neg {x y : Int} : x.sign * y.sign < 0 ↔ (x < 0 ∧ 0 < y) ∨ (0 < x ∧ y < 0) := by
  rw [← Int.sign_mul, ← mul_neg_iff]
  constructor
  · intro h
    rcases Int.lt_trichotomy (x * y) 0 with k | k | k
    · exact k
    · rw [k] at h; simp at h
    · rw [Int.sign_eq_one_of_pos k] at h; omega
  · intro h; rw [Int.sign_eq_neg_one_of_neg h]; decide
theorem sign_mul_pos {x y : Int} : 0 < x.sign * y.sign ↔ (x < 0 ∧ y < 0) ∨ (0 < x ∧ 0 < y) := by
  rw [← Int.sign_mul, ← mul_pos_iff']
  constructor
  · intro h
    rcases Int.lt_trichotomy (x * y) 0 with k | k | k
    · rw [Int.sign_eq_neg_one_of_neg k] at h; omega
    · rw [k] at h; simp at h
    · exact k
  · intro h; rw [Int.sign_eq_one_of_pos h]; decide

/-- Do the ends of each lie strictly on both sides of the other? -/
def Crs (a b c d : Pt) : Prop := ((det a b c < 0 ∧ 0 < det a b d) ∨ (0 < det a b c ∧ det a b d < 0)) ∧ ((det c d a < 0 ∧ 0 < det c d b) ∨ (0 < det c d a ∧ det c d b < 0))
theorem crossB_iff {a b c d : Pt} (h1 : may a b = true) (h2 : may c d = true) : crossB a b c d = true ↔ Crs a b c d := by
  obtain ⟨ha, hb, _⟩ := may_iff.1 h1
  obtain ⟨hc, hd, _⟩ := may_iff.1 h2
  unfold crossB Crs
  rw [Bool.and_eq_true, decide_eq_true_eq, decide_eq_true_eq, turn_ok ha hb hc, turn_ok ha hb hd, turn_ok hc hd ha, turn_ok hc hd hb, sign_mul_neg, sign_mul_neg]

/-- Have the segments a point in common? -/
def Mt (a b c d : Pt) : Prop := onS a c d = true ∨ onS b c d = true ∨ onS c a b = true ∨ onS d a b = true ∨ Crs a b c d
theorem ends_nil {a b c d : Pt} (h1 : may a b = true) (h2 : may c d = true) : (ends a b c d).length = 0 ↔ ¬ (onS a c d = true ∨ onS b c d = true ∨ onS c a b = true ∨ onS d a b = true) := by
  have k1 := may_iff.1 h1
  have k2 := may_iff.1 h2
  have e1 := onS_left k1.1 k1.2.1
  have e2 := onS_right k1.1 k1.2.1
  have e3 := onS_left k2.1 k2.2.1
  have e4 := onS_right k2.1 k2.2.1
  rw [List.length_eq_zero_iff, List.eq_nil_iff_forall_not_mem]
  constructor
  · intro h hh
    rcases hh with hh | hh | hh | hh
    · exact h a ((mem_ends h1 h2).2 ⟨.inl rfl, e1, hh⟩)
    · exact h b ((mem_ends h1 h2).2 ⟨.inr (.inl rfl), e2, hh⟩)
    · exact h c ((mem_ends h1 h2).2 ⟨.inr (.inr (.inl rfl)), hh, e3⟩)
    · exact h d ((mem_ends h1 h2).2 ⟨.inr (.inr (.inr rfl)), hh, e4⟩)
  · intro h x hx
    obtain ⟨hh, j, k⟩ := (mem_ends h1 h2).1 hx
    apply h
    rcases hh with rfl | rfl | rfl | rfl
    · exact .inl k
    · exact .inr (.inl k)
    · exact .inr (.inr (.inl j))
    · exact .inr (.inr (.inr j))
theorem meets_ne {a b c d : Pt} (h1 : may a b = true) (h2 : may c d = true) : meets a b c d ≠ 0 ↔ Mt a b c d := by
  have hn := ends_nil h1 h2
  have hc := crossB_iff h1 h2
  unfold meets Mt
  rw [if_pos (by rw [h1, h2]; rfl)]
  by_cases h : (ends a b c d).length = 0
  · rw [if_pos h]
    have hn' := hn.1 h
    by_cases hx : crossB a b c d = true
    · rw [if_pos hx]; exact ⟨fun _ => .inr (.inr (.inr (.inr (hc.1 hx)))), fun _ => by decide⟩
    · rw [if_neg hx]
      constructor
      · intro k; exact absurd rfl k
      · rintro (k | k | k | k | k)
        · exact absurd (.inl k) hn'
        · exact absurd (.inr (.inl k)) hn'
        · exact absurd (.inr (.inr (.inl k))) hn'
        · exact absurd (.inr (.inr (.inr k))) hn'
        · exact absurd (hc.2 k) hx
  · rw [if_neg h]
    have hn' : onS a c d = true ∨ onS b c d = true ∨ onS c a b = true ∨ onS d a b = true := by
      rcases Classical.em (onS a c d = true ∨ onS b c d = true ∨ onS c a b = true ∨ onS d a b = true) with k | k
      · exact k
      · exact absurd (hn.2 k) h
    constructor
    · intro _
      rcases hn' with k | k | k | k
      · exact .inl k
      · exact .inr (.inl k)
      · exact .inr (.inr (.inl k))
      · exact .inr (.inr (.inr (.inl k)))
    · intro _; split <;> decide

/-- Two ends that are on one another's segment keep them from crossing. -/
theorem crs_no_ends {a b c d : Pt} (h : Crs a b c d) : ¬ (onS a c d = true ∨ onS b c d = true ∨ onS c a b = true ∨ onS d a b = true) := by
  unfold Crs at h
  rintro (k | k | k | k) <;> have := (onS_iff.1 k).2.2.2.2.2 <;> omega
theorem meets_cross {a b c d : Pt} (h1 : may a b = true) (h2 : may c d = true) : meets a b c d = 2 ↔ Crs a b c d := by
  have hn := ends_nil h1 h2
  have hc := crossB_iff h1 h2
  unfold meets
  rw [if_pos (by rw [h1, h2]; rfl)]
  constructor
  · intro h
    split at h
    · split at h
      · rename_i k; exact hc.1 k
      · omega
    · split at h <;> omega
  · intro h
    rw [if_pos (hn.2 (crs_no_ends h)), if_pos (hc.2 h)]

/-- Of the same sign at both ends: of that sign all along. -/
theorem comb_pos {D k x y z : Int} (hD : 0 < D) (h0 : 0 ≤ k) (h1 : k ≤ D) (h : D * z = (D - k) * x + k * y) (hx : 0 < x) (hy : 0 < y) : 0 < z := by
  have : 0 < D * z := by
    rw [h]
    rcases Int.lt_or_eq_of_le h0 with hk | hk
    · have := Int.mul_pos hk hy
      have := Int.mul_nonneg (show 0 ≤ D - k by omega) (Int.le_of_lt hx)
      omega
    · subst hk; simp; exact Int.mul_pos hD hx
  rcases Int.lt_or_le 0 z with hz | hz
  · exact hz
  · have := Int.mul_nonpos_of_nonneg_of_nonpos (Int.le_of_lt hD) hz; omega
theorem comb_neg {D k x y z : Int} (hD : 0 < D) (h0 : 0 ≤ k) (h1 : k ≤ D) (h : D * z = (D - k) * x + k * y) (hx : x < 0) (hy : y < 0) : z < 0 := by
  have := comb_pos (x := -x) (y := -y) (z := -z) hD h0 h1 (by grind) (by omega) (by omega)
  omega
theorem comb_zero {D k x y z : Int} (hD : 0 < D) (h : D * z = (D - k) * x + k * y) (hx : x = 0) (hy : y = 0) : z = 0 := by
  subst hx; subst hy
  have : D * z = 0 := by rw [h]; simp
  exact (Int.mul_eq_zero.1 this).resolve_left (by omega)

/-- Both ends strictly on one side: they do not meet. -/
theorem not_Mt_of_side {a b c d : Pt} (h1 : may a b = true) (h2 : may c d = true) (h : (det a b c < 0 ∧ det a b d < 0) ∨ (0 < det a b c ∧ 0 < det a b d)) : ¬ Mt a b c d := by
  obtain ⟨_, _, hab⟩ := may_iff.1 h1
  obtain ⟨_, _, hcd⟩ := may_iff.1 h2
  have key : ∀ p, onS p c d = true → det a b p ≠ 0 := by
    intro p hp e
    obtain ⟨D, k, hD, h0, hk, e1, e2⟩ := onS_param hp hcd
    have hl := det_param e1 e2 a b
    rcases h with ⟨x, y⟩ | ⟨x, y⟩
    · have := comb_neg hD h0 hk hl x y; omega
    · have := comb_pos hD h0 hk hl x y; omega
  rintro (k | k | k | k | k)
  · exact key a k (det_aba a b)
  · exact key b k (det_abb a b)
  · have := (onS_iff.1 k).2.2.2.2.2; omega
  · have := (onS_iff.1 k).2.2.2.2.2; omega
  · unfold Crs at k; omega
theorem Mt_swap {a b c d : Pt} : Mt c d a b ↔ Mt a b c d := by
  unfold Mt Crs; constructor
  · rintro (k | k | k | k | k)
    · exact .inr (.inr (.inl k))
    · exact .inr (.inr (.inr (.inl k)))
    · exact .inl k
    · exact .inr (.inl k)
    · exact .inr (.inr (.inr (.inr ⟨k.2, k.1⟩)))
  · rintro (k | k | k | k | k)
    · exact .inr (.inr (.inl k))
    · exact .inr (.inr (.inr (.inl k)))
    · exact .inl k
    · exact .inr (.inl k)
    · exact .inr (.inr (.inr (.inr ⟨k.2, k.1⟩)))

/-- A coordinate at which they cross lies in both stretches. -/
theorem cross_overlap {F x y z w a b c d : Int} (hx : x < 0) (hy : 0 < y) (hF : F = y - x) (hG : (z < 0 ∧ 0 < w ∧ F = w - z) ∨ (0 < z ∧ w < 0 ∧ F = z - w))
    (h : y * a - x * b = (if z < 0 then w * c - z * d else z * d - w * c)) : ¬ (a < c ∧ a < d ∧ b < c ∧ b < d) := by
  rintro ⟨k1, k2, k3, k4⟩
  rcases hG with ⟨hz, hw, hG⟩ | ⟨hz, hw, hG⟩
  · rw [if_pos hz] at h
    have A : ∃ m, a ≤ m ∧ b ≤ m ∧ m < c ∧ m < d := ⟨max a b, by omega, by omega, by omega, by omega⟩
    obtain ⟨m, m1, m2, m3, m4⟩ := A
    have p1 : y * a ≤ y * m := Int.mul_le_mul_of_nonneg_left m1 (by omega)
    have p2 : (-x) * b ≤ (-x) * m := Int.mul_le_mul_of_nonneg_left m2 (by omega)
    have p3 : w * m < w * c := Int.mul_lt_mul_of_pos_left m3 hw
    have p4 : (-z) * m < (-z) * d := Int.mul_lt_mul_of_pos_left m4 (by omega)
    have e : (y - x) * m = (w - z) * m := by rw [← hF, hG]
    rw [Int.sub_mul, Int.sub_mul] at e
    rw [Int.neg_mul, Int.neg_mul] at p2 p4
    omega
  · rw [if_neg (by omega)] at h
    have A : ∃ m, a ≤ m ∧ b ≤ m ∧ m < c ∧ m < d := ⟨max a b, by omega, by omega, by omega, by omega⟩
    obtain ⟨m, m1, m2, m3, m4⟩ := A
    have p1 : y * a ≤ y * m := Int.mul_le_mul_of_nonneg_left m1 (by omega)
    have p2 : (-x) * b ≤ (-x) * m := Int.mul_le_mul_of_nonneg_left m2 (by omega)
    have p3 : (-w) * m < (-w) * c := Int.mul_lt_mul_of_pos_left m3 (by omega)
    have p4 : z * m < z * d := Int.mul_lt_mul_of_pos_left m4 hz
    have e : (y - x) * m = (z - w) * m := by rw [← hF, hG]
    rw [Int.sub_mul, Int.sub_mul] at e
    rw [Int.neg_mul, Int.neg_mul] at p2 p3
    omega

/-- Boxes of two segments that have no column, or no row, in common: no meeting. -/
theorem not_Mt_of_left {a b c d : Pt} (k : a.1 < c.1 ∧ a.1 < d.1 ∧ b.1 < c.1 ∧ b.1 < d.1) : ¬ Mt a b c d := by
  obtain ⟨k1, k2, k3, k4⟩ := k
  rintro (h | h | h | h | h)
  · have := btw_iff.1 (onS_iff.1 h).2.2.2.1; omega
  · have := btw_iff.1 (onS_iff.1 h).2.2.2.1; omega
  · have := btw_iff.1 (onS_iff.1 h).2.2.2.1; omega
  · have := btw_iff.1 (onS_iff.1 h).2.2.2.1; omega
  · have id1 : det c d b * a.1 - det c d a * b.1 = det a b c * d.1 - det a b d * c.1 := by unfold det; grind
    have id2 : det c d b - det c d a = det a b c - det a b d := by unfold det; grind
    obtain ⟨hg, hf⟩ := h
    rcases hf with ⟨f1, f2⟩ | ⟨f1, f2⟩
    · refine cross_overlap (F := det c d b - det c d a) (x := det c d a) (y := det c d b) (z := det a b d) (w := det a b c) (a := a.1) (b := b.1) (c := d.1) (d := c.1) f1 f2 rfl ?_ ?_ ⟨k2, k1, k4, k3⟩
      · rcases hg with ⟨g1, g2⟩ | ⟨g1, g2⟩
        · exfalso; omega
        · left; exact ⟨g2, g1, id2⟩
      · rcases hg with ⟨g1, g2⟩ | ⟨g1, g2⟩
        · exfalso; omega
        · rw [if_pos g2]; exact id1
    · refine cross_overlap (F := det c d a - det c d b) (x := det c d b) (y := det c d a) (z := det a b c) (w := det a b d) (a := b.1) (b := a.1) (c := c.1) (d := d.1) f2 f1 rfl ?_ ?_ ⟨k3, k4, k1, k2⟩
      · rcases hg with ⟨g1, g2⟩ | ⟨g1, g2⟩
        · left; exact ⟨g1, g2, by omega⟩
        · exfalso; omega
      · rcases hg with ⟨g1, g2⟩ | ⟨g1, g2⟩
        · rw [if_pos g1]; omega
        · exfalso; omega
end Go.Proofs.Geo
