/- Plain geometry of points with whole coordinates: turns, betweenness; no program in sight. -/
namespace Go.Proofs.Geo

/-- A point: its two coordinates. -/
abbrev Pt := Int × Int

/-- May a coordinate be? -/
def okB (x : Int) : Bool := decide (-1099511627775 ≤ x) && decide (x ≤ 1099511627775)
def okP (p : Pt) : Bool := okB p.1 && okB p.2
theorem okB_iff {x : Int} : okB x = true ↔ -1099511627775 ≤ x ∧ x ≤ 1099511627775 := by simp [okB]
theorem okP_iff {p : Pt} : okP p = true ↔ (-1099511627775 ≤ p.1 ∧ p.1 ≤ 1099511627775) ∧ -1099511627775 ≤ p.2 ∧ p.2 ≤ 1099511627775 := by simp [okP, okB]
theorem okP_false {p : Pt} : okP p = false ↔ ¬ ((-1099511627775 ≤ p.1 ∧ p.1 ≤ 1099511627775) ∧ -1099511627775 ≤ p.2 ∧ p.2 ≤ 1099511627775) := by
  rw [← okP_iff]; simp

/-- The cross product of b - a and c - a. -/
def det (a b c : Pt) : Int := (b.1 - a.1) * (c.2 - a.2) - (b.2 - a.2) * (c.1 - a.1)
/-- On which side of the line from a to b c is. -/
def turn (a b c : Pt) : Int := if okP a && okP b && okP c then (det a b c).sign else 0
def btw (n a b : Int) : Bool := decide (min a b ≤ n) && decide (n ≤ max a b)
def onS (p a b : Pt) : Bool := okP p && okP a && okP b && btw p.1 a.1 b.1 && btw p.2 a.2 b.2 && decide (turn a b p = 0)
/-- The order of points. -/
def cmpP (a b : Pt) : Int := if a.2 < b.2 then -1 else if b.2 < a.2 then 1 else if a.1 < b.1 then -1 else if b.1 < a.1 then 1 else 0

theorem btw_iff {n a b : Int} : btw n a b = true ↔ (a ≤ n ∧ n ≤ b) ∨ (b ≤ n ∧ n ≤ a) := by
  simp only [btw, Bool.and_eq_true, decide_eq_true_eq]; omega

theorem turn_ok {a b c : Pt} (ha : okP a = true) (hb : okP b = true) (hc : okP c = true) : turn a b c = (det a b c).sign := by simp [turn, ha, hb, hc]

theorem det_cyc (a b c : Pt) : det b c a = det a b c := by unfold det; grind
theorem det_swap (a b c : Pt) : det b a c = - det a b c := by unfold det; grind
theorem det_swap' (a b c : Pt) : det a c b = - det a b c := by unfold det; grind
theorem det_aa (a c : Pt) : det a a c = 0 := by unfold det; simp
theorem det_aba (a b : Pt) : det a b a = 0 := by unfold det; simp
theorem det_abb (a b : Pt) : det a b b = 0 := by unfold det; grind

theorem turn_cyc (a b c : Pt) : turn b c a = turn a b c := by
  unfold turn; rw [det_cyc]; cases okP a <;> cases okP b <;> cases okP c <;> simp
theorem turn_swap (a b c : Pt) : turn b a c = - turn a b c := by
  unfold turn; rw [det_swap]; cases okP a <;> cases okP b <;> cases okP c <;> simp [Int.sign_neg]
theorem turn_swap' (a b c : Pt) : turn a c b = - turn a b c := by
  unfold turn; rw [det_swap']; cases okP a <;> cases okP b <;> cases okP c <;> simp [Int.sign_neg]
theorem turn_aac (a c : Pt) : turn a a c = 0 := by unfold turn; rw [det_aa]; simp
theorem turn_aba (a b : Pt) : turn a b a = 0 := by unfold turn; rw [det_aba]; simp
theorem turn_abb (a b : Pt) : turn a b b = 0 := by unfold turn; rw [det_abb]; simp
theorem sign_bd (x : Int) : -1 ≤ x.sign ∧ x.sign ≤ 1 := by
  rcases Int.lt_trichotomy x 0 with h | h | h
  · rw [Int.sign_eq_neg_one_of_neg h]; decide
  · subst h; decide
  · rw [Int.sign_eq_one_of_pos h]; decide
theorem turn_bd (a b c : Pt) : -1 ≤ turn a b c ∧ turn a b c ≤ 1 := by
  unfold turn; split
  · exact sign_bd _
  · decide
theorem sign_zero {x : Int} : x.sign = 0 ↔ x = 0 := Int.sign_eq_zero_iff_zero
theorem sign_pos {x : Int} : x.sign = 1 ↔ 0 < x := Int.sign_eq_one_iff_pos
theorem sign_neg' {x : Int} : x.sign = -1 ↔ x < 0 := Int.sign_eq_neg_one_iff_neg

/-- Seen from the other side. -/
theorem turn_flip (a b c : Pt) : turn (-a.1, a.2) (-b.1, b.2) (-c.1, c.2) = - turn a b c := by
  have e : det (-a.1, a.2) (-b.1, b.2) (-c.1, c.2) = - det a b c := by unfold det; grind
  have k : ∀ p : Pt, okP (-p.1, p.2) = okP p := by intro p; simp only [okP, okB]; rw [Bool.eq_iff_iff]; simp; omega
  unfold turn; rw [e, k, k, k]; split <;> simp [Int.sign_neg]
theorem turn_transp (a b c : Pt) : turn (a.2, a.1) (b.2, b.1) (c.2, c.1) = - turn a b c := by
  have e : det (a.2, a.1) (b.2, b.1) (c.2, c.1) = - det a b c := by unfold det; grind
  have k : ∀ p : Pt, okP (p.2, p.1) = okP p := by intro p; simp only [okP]; rw [Bool.and_comm]
  unfold turn; rw [e, k, k, k]; split <;> simp [Int.sign_neg]

/-- Moved. -/
def mv (p d : Pt) : Pt := (p.1 + d.1, p.2 + d.2)
theorem det_mv (a b c d : Pt) : det (mv a d) (mv b d) (mv c d) = det a b c := by unfold det mv; grind
theorem btw_mv (n a b d : Int) : btw (n + d) (a + d) (b + d) = btw n a b := by rw [Bool.eq_iff_iff, btw_iff, btw_iff]; omega
theorem btw_comm (n a b : Int) : btw n a b = btw n b a := by rw [Bool.eq_iff_iff, btw_iff, btw_iff]; exact Or.comm

theorem onS_comm (p a b : Pt) : onS p a b = onS p b a := by
  have e : decide (turn a b p = 0) = decide (turn b a p = 0) := by rw [turn_swap a b p]; simp
  unfold onS
  rw [btw_comm p.1 a.1 b.1, btw_comm p.2 a.2 b.2, e]
  cases okP p <;> cases okP a <;> cases okP b <;> simp
theorem onS_turn {p a b : Pt} (h : onS p a b = true) : turn a b p = 0 := by
  simp only [onS, Bool.and_eq_true, decide_eq_true_eq] at h; exact h.2
theorem onS_left {a b : Pt} (ha : okP a = true) (hb : okP b = true) : onS a a b = true := by
  have h : ∀ n m : Int, btw n n m = true := by intro n m; rw [btw_iff]; omega
  simp [onS, ha, hb, turn_aba, h]
theorem onS_right {a b : Pt} (ha : okP a = true) (hb : okP b = true) : onS b a b = true := by
  rw [onS_comm]; exact onS_left hb ha
/-- Being on a segment, in plain words. -/
theorem onS_iff {p a b : Pt} : onS p a b = true ↔ okP p = true ∧ okP a = true ∧ okP b = true ∧ btw p.1 a.1 b.1 = true ∧ btw p.2 a.2 b.2 = true ∧ det a b p = 0 := by
  simp only [onS, Bool.and_eq_true, decide_eq_true_eq, and_assoc]
  constructor
  · rintro ⟨h1, h2, h3, h4, h5, h6⟩
    refine ⟨h1, h2, h3, h4, h5, ?_⟩
    rw [turn_ok h2 h3 h1] at h6; exact sign_zero.1 h6
  · rintro ⟨h1, h2, h3, h4, h5, h6⟩
    refine ⟨h1, h2, h3, h4, h5, ?_⟩
    rw [turn_ok h2 h3 h1]; exact sign_zero.2 h6

/-- A part of a stretch that lies in proportion lies between. -/
theorem prop_btw {D e f g : Int} (hD : 0 < D) (h0 : 0 ≤ e) (h1 : e ≤ D) (h : f * D = g * e) : (0 ≤ f ∧ f ≤ g) ∨ (g ≤ f ∧ f ≤ 0) := by
  rcases Int.le_total 0 g with hg | hg
  · left
    constructor
    · have : 0 ≤ f * D := by rw [h]; exact Int.mul_nonneg hg h0
      rcases Int.lt_or_le f 0 with hf | hf
      · have := Int.mul_neg_of_neg_of_pos hf hD; omega
      · exact hf
    · have h2 : g * e ≤ g * D := Int.mul_le_mul_of_nonneg_left h1 hg
      rw [← h] at h2
      exact Int.le_of_mul_le_mul_right h2 hD
  · right
    constructor
    · have h2 : g * D ≤ g * e := Int.mul_le_mul_of_nonpos_left hg h1
      rw [← h] at h2
      exact Int.le_of_mul_le_mul_right h2 hD
    · have : f * D ≤ 0 := by rw [h]; exact Int.mul_nonpos_of_nonpos_of_nonneg hg h0
      rcases Int.lt_or_le 0 f with hf | hf
      · have := Int.mul_pos hf hD; omega
      · exact hf

/-- Of three points on one line: the one whose first coordinate is between is between. -/
theorem between_x {a b c : Pt} (h : det a b c = 0) (hx : a.1 < b.1) (h1 : a.1 ≤ c.1) (h2 : c.1 ≤ b.1) : btw c.2 a.2 b.2 = true := by
  have hd : (c.2 - a.2) * (b.1 - a.1) = (b.2 - a.2) * (c.1 - a.1) := by unfold det at h; grind
  have := prop_btw (by omega) (by omega) (by omega) hd
  rw [btw_iff]; omega
theorem between_x' {a b c : Pt} (h : det a b c = 0) (hx : a.1 ≠ b.1) (h1 : btw c.1 a.1 b.1 = true) : btw c.2 a.2 b.2 = true := by
  rw [btw_iff] at h1
  rcases Int.lt_or_gt_of_ne hx with hl | hl
  · exact between_x h hl (by omega) (by omega)
  · rw [btw_comm]; exact between_x (a := b) (b := a) (by rw [det_swap]; omega) hl (by omega) (by omega)
theorem between_y' {a b c : Pt} (h : det a b c = 0) (hx : a.2 ≠ b.2) (h1 : btw c.2 a.2 b.2 = true) : btw c.1 a.1 b.1 = true := by
  have := between_x' (a := (a.2, a.1)) (b := (b.2, b.1)) (c := (c.2, c.1)) (by unfold det at *; grind) hx h1
  exact this

theorem btw_three (a b c : Int) : btw a b c = true ∨ btw b a c = true ∨ btw c a b = true := by
  simp only [btw_iff]; omega

theorem det_zero_some {a b c : Pt} (h : det a b c = 0) : (btw c.1 a.1 b.1 = true ∧ btw c.2 a.2 b.2 = true) ∨ (btw a.1 b.1 c.1 = true ∧ btw a.2 b.2 c.2 = true) ∨ (btw b.1 a.1 c.1 = true ∧ btw b.2 a.2 c.2 = true) := by
  have h2 : det b c a = 0 := by rw [det_cyc]; exact h
  have h3 : det a c b = 0 := by rw [det_swap']; omega
  by_cases hx : a.1 = b.1 ∧ b.1 = c.1
  · obtain ⟨e1, e2⟩ := hx
    rcases btw_three a.2 b.2 c.2 with h | h | h
    · right; left; exact ⟨by rw [btw_iff]; omega, h⟩
    · right; right; exact ⟨by rw [btw_iff]; omega, h⟩
    · left; exact ⟨by rw [btw_iff]; omega, h⟩
  · rcases btw_three a.1 b.1 c.1 with k | k | k
    · by_cases e : b.1 = c.1
      · exfalso; rw [btw_iff] at k; omega
      · right; left; exact ⟨k, between_x' h2 e k⟩
    · by_cases e : a.1 = c.1
      · exfalso; rw [btw_iff] at k; omega
      · right; right; exact ⟨k, between_x' h3 e k⟩
    · by_cases e : a.1 = b.1
      · exfalso; rw [btw_iff] at k; omega
      · left; exact ⟨k, between_x' h e k⟩

/-- Of three points that may be there is no turn just if one is on the segment between the others. -/
theorem turn_zero_iff {a b c : Pt} (ha : okP a = true) (hb : okP b = true) (hc : okP c = true) :
    turn a b c = 0 ↔ (onS c a b = true ∨ onS a b c = true ∨ onS b a c = true) := by
  constructor
  · intro h
    rw [turn_ok ha hb hc, sign_zero] at h
    rcases det_zero_some h with k | k | k
    · left; exact onS_iff.2 ⟨hc, ha, hb, k.1, k.2, h⟩
    · right; left; exact onS_iff.2 ⟨ha, hb, hc, k.1, k.2, by rw [det_cyc]; exact h⟩
    · right; right; exact onS_iff.2 ⟨hb, ha, hc, k.1, k.2, by rw [det_swap']; omega⟩
  · rintro (h | h | h)
    · exact onS_turn h
    · have := onS_turn h; rw [turn_cyc] at this; exact this
    · have := onS_turn h; rw [turn_swap'] at this; omega

theorem onS_mv {p a b d : Pt} (hp : okP p = true) (ha : okP a = true) (hb : okP b = true) (hp' : okP (mv p d) = true) (ha' : okP (mv a d) = true) (hb' : okP (mv b d) = true) :
    onS (mv p d) (mv a d) (mv b d) = onS p a b := by
  rw [Bool.eq_iff_iff, onS_iff, onS_iff, det_mv]
  simp only [hp, ha, hb, hp', ha', hb', true_and]
  show btw (p.1 + d.1) (a.1 + d.1) (b.1 + d.1) = true ∧ btw (p.2 + d.2) (a.2 + d.2) (b.2 + d.2) = true ∧ _ ↔ _
  rw [btw_mv, btw_mv]
theorem turn_mv {a b c d : Pt} (ha : okP a = true) (hb : okP b = true) (hc : okP c = true) (ha' : okP (mv a d) = true) (hb' : okP (mv b d) = true) (hc' : okP (mv c d) = true) :
    turn (mv a d) (mv b d) (mv c d) = turn a b c := by rw [turn_ok ha' hb' hc', turn_ok ha hb hc, det_mv]

/-- The order. -/
theorem cmpP_neg (a b : Pt) : cmpP b a = - cmpP a b := by unfold cmpP; repeat' split <;> omega
theorem cmpP_zero {a b : Pt} : cmpP a b = 0 ↔ a = b := by
  have : a = b ↔ a.1 = b.1 ∧ a.2 = b.2 := Prod.ext_iff
  rw [this]; unfold cmpP; repeat' split <;> omega
theorem cmpP_bd (a b : Pt) : -1 ≤ cmpP a b ∧ cmpP a b ≤ 1 := by unfold cmpP; repeat' split <;> omega
theorem cmpP_trans {a b c : Pt} (h1 : cmpP a b ≤ 0) (h2 : cmpP b c ≤ 0) : cmpP a c ≤ 0 := by unfold cmpP at *; repeat' split at * <;> omega
end Go.Proofs.Geo
